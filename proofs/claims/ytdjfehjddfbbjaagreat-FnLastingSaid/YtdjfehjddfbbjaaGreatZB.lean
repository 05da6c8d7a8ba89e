/- Faults: what the reference's functions come to (written by gB1.py, own work). -/
import Derived.Test.YtdjfehjddfbbjaaGreatZA
set_option linter.unusedVariables false
set_option linter.unusedSimpArgs false
namespace Go.Proofs.YtdjfehjddfbbjaaGreat
open Go Go.RowKit Mk
theorem entryFaultS_c (x : SEntry) (w : World) :
    Calls Tryz.prog 116 #[.agg #[.int .i64 x.Client, .int .i64 x.Seq, .int .i64 x.Op.Kind, .int .i64 x.Op.Vol, .int .i64 x.Op.At, .int .i64 x.Op.Value]] w fun e w' => e = .returned (.int .i64 (entryF x)) ∧ Below w.heap.size w w' := by
  go_enter Tryz.func116, Tryz.ntmps116
  go_wp2_with (first | (go_at_call 84; refine (l1In_c _ _ _ _).mono ?_; rintro e w' ⟨rfl, rfl⟩) | (go_at_call 144; refine (opFaultS_c x.Op _).mono ?_; rintro e w' ⟨rfl, hb⟩))
  all_goals (go_ret; refine ⟨ret_int ?_, by repeat (first | assumption | exact Below.refl _ _ | (refine below_trans ?_ (by assumption)) | apply below_alloc | apply below_drewN | apply Below.drew)⟩; go_light; simp_all [entryF])
set_option maxHeartbeats 1000000 in
theorem logFaultS_c (xs : List SEntry) (A : Option Addr) (c : Nat) (w : World) (h : RdS kEntry w A c xs) :
    Calls Tryz.prog 86 #[.slice A xs.length c] w fun e w' => e = .returned (.int .i64 (logF xs)) ∧ Below w.heap.size w w' := by
  have hlen := h.le63
  by_cases h40 : 40 < xs.length
  · go_enter Tryz.func86, Tryz.ntmps86
    go_wp2
    go_ret
    exact ⟨ret_int (by simp [logF, h40]), Below.refl _ _⟩
  · go_enter Tryz.func86, Tryz.ntmps86
    go_wp2
    go_loopw [3] (fun i W => ∃ k : Nat, k ≤ xs.length ∧ i = .int .i64 k ∧ first entryF (xs.drop k) = first entryF xs ∧ Below w.heap.size w W) (fun i _ => xs.length - (intOf i).toNat)
    case atStart => exact ⟨0, Nat.zero_le _, rfl, rfl, Below.refl _ _⟩
    case round =>
      obtain ⟨k, hk, rfl, hf, hb⟩ := hrel
      by_cases hlt : k < xs.length
      · have hs := first_drop entryF xs k hlt
        have HS := Lib.hid (hs.symm.trans hf); clear hs hf
        obtain ⟨a, rfl, hat⟩ := (h.below hb).at_ hlt
        obtain ⟨f0, f1, f2, f3, f4, f5⟩ := atEntry hat
        simp only [show kEntry.sz = 6 from rfl] at f0 f1 f2 f3 f4 f5
        clear hat h
        go_wp2_with (go_at_call 116; refine (entryFaultS_c xs[k] _).mono ?_; rintro e w' ⟨rfl, hb1⟩)
        · go_ret
          exact ⟨ret_int (by rw [logF, if_neg h40, ← HS.out, if_pos (by assumption)]), by repeat (first | assumption | exact Below.refl _ _ | (refine below_trans ?_ (by assumption)) | apply below_alloc | apply below_drewN | apply Below.drew)⟩
        · exact ⟨⟨k + 1, hlt, by go_num, by rw [← HS.out, if_neg (by simp_all)], by repeat (first | assumption | exact Below.refl _ _ | (refine below_trans ?_ (by assumption)) | apply below_alloc | apply below_drewN | apply Below.drew)⟩, by simp [intOf]; omega⟩
      · have HF := Lib.hid hf; clear hf
        go_wp2
        go_ret
        exact ⟨ret_int (by rw [logF, if_neg h40, ← HF.out, List.drop_of_length_le (by omega)]; rfl), by repeat (first | assumption | exact Below.refl _ _ | (refine below_trans ?_ (by assumption)) | apply below_alloc | apply below_drewN | apply Below.drew)⟩
theorem l9View_c (n : Int) (w : World) : Calls Tryz.prog 85 #[.int .i64 n] w fun e w' => e = .returned (.bool (wi n 0 200)) ∧ w = w' := by
  go_enter Tryz.func85, Tryz.ntmps85
  go_wp2_with (go_at_call 84; refine (l1In_c _ _ _ _).mono ?_; rintro e w' ⟨rfl, rfl⟩)
  go_ret; exact ⟨rfl, rfl⟩
theorem l9Primary_c (n : SReplica) (p : Addr) (w : World) (h : At kReplica w p n) (h0 : 0 ≤ n.View) (h1 : 1 ≤ n.Size) :
    Calls Tryz.prog 53 #[.pointer (some p)] w fun e w' => e = .returned (.bool (isPrim n)) ∧ ∃ q, w' = w.drewN q := by
  obtain ⟨A5, c5, A7, c7, A8, c8, A9, c9, f0, f1, f2, f3, f4, f5, f6, f7, f8, f9, h⟩ := atReplica h
  clear f3 f4 f5 f6 f7 f8 f9 h
  have hs : (n.Size == 0) = false := beq_eq_false_iff_ne.2 (by omega)
  go_enter Tryz.func53, Tryz.ntmps53
  go_wp2_with fail
  go_quiet (fail)
  go_wp2
  go_ret; exact ⟨rfl, _, rfl⟩
set_option maxHeartbeats 1000000 in
theorem l9Sizes_c (n : SReplica) (p : Addr) (w : World) (h : At kReplica w p n) (h0 : 0 ≤ n.View) (h1 : 1 ≤ n.Size) (h2 : n.Size ≤ 5) :
    Calls Tryz.prog 87 #[.pointer (some p)] w fun e w' => e = .returned (.bool ((n.Oks.length : Int) == oksN n && (n.Asks.length : Int) == asksN n && (n.Doers.length : Int) == asksN n)) ∧ ∃ q, w' = w.drewN q := by
  obtain ⟨A5, c5, A7, c7, A8, c8, A9, c9, f0, f1, f2, f3, f4, f5, f6, f7, f8, f9, hh⟩ := atReplica h
  clear f0 f2 f4 f5 f6 hh
  cases hN : n.Normal with
  | false =>
    have e1 : oksN n = 0 := by simp [oksN, leadsB, hN]
    have e2 : asksN n = n.Size := by simp [asksN, hN]
    rw [e1, e2]; clear e1 e2
    go_enter Tryz.func87, Tryz.ntmps87
    go_wp2
    all_goals (go_ret; refine ⟨ret_bool ?_, ⟨0, rfl⟩⟩; go_light; simp_all)
  | true =>
    have e2 : asksN n = 0 := by simp [asksN, hN]
    cases hP : isPrim n with
    | false =>
      have e1 : oksN n = 0 := by simp [oksN, leadsB, hN, hP]
      rw [e1, e2]; clear e1 e2
      go_enter Tryz.func87, Tryz.ntmps87
      go_wp2_with (go_at_call 53; refine (l9Primary_c n p _ h h0 h1).mono ?_; rw [hP]; rintro e w' ⟨rfl, q, rfl⟩)
      all_goals (go_ret; refine ⟨ret_bool ?_, ⟨q, rfl⟩⟩; go_light; simp_all)
    | true =>
      have e1 : oksN n = n.Size := by simp [oksN, leadsB, hN, hP]
      rw [e1, e2]; clear e1 e2
      go_enter Tryz.func87, Tryz.ntmps87
      go_wp2_with (go_at_call 53; refine (l9Primary_c n p _ h h0 h1).mono ?_; rw [hP]; rintro e w' ⟨rfl, q, rfl⟩)
      all_goals (go_ret; refine ⟨ret_bool ?_, ⟨q, rfl⟩⟩; go_light; simp_all)
set_option maxHeartbeats 1000000 in
theorem l9Doer_c (d : SDoer) (p : Addr) (w : World) (h : At kDoer w p d) :
    Calls Tryz.prog 88 #[.pointer (some p)] w fun e w' => e = .returned (.int .i64 (doerF d)) ∧ Below w.heap.size w w' := by
  obtain ⟨cs, hl, hr⟩ := h
  obtain ⟨A, c, rfl, h⟩ := kDoer_open hr
  clear hr
  have hlen := h.le63
  obtain ⟨K, L, lg, C⟩ := d
  dsimp only at h hlen hl ⊢
  have main : ∀ (K : Bool), Lies w p [.bool K, .int .i64 L, .slice A lg.length c, .int .i64 C] → (K = true ∨ L = 0 ∧ lg = [] ∧ C = 0) → Calls Tryz.prog 88 #[.pointer (some p)] w fun e w' => e = .returned (.int .i64 (doerF ⟨K, L, lg, C⟩)) ∧ Below w.heap.size w w' := by
    intro K hl hK
    have hd : doerF ⟨K, L, lg, C⟩ = if !wi L 0 200 then 3 else if logF lg != 0 then logF lg else if !wi C 0 lg.length then 3 else 0 := by
      rcases hK with rfl | ⟨rfl, rfl, rfl⟩
      · simp [doerF]
      · cases K <;> rfl
    rw [hd]; clear hd
    generalize hr : (if !wi L 0 200 then 3 else if logF lg != 0 then logF lg else if !wi C 0 lg.length then 3 else 0 : Int) = r
    have HR := Lib.hid hr; clear hr
    rcases hK with rfl | ⟨rfl, rfl, rfl⟩
    · have g0 := liesDoer (x := ⟨true, L, lg, C⟩) hl
      dsimp only at g0
      go_enter Tryz.func88, Tryz.ntmps88
      go_wp2_with (first | (go_at_call 85; refine (l9View_c _ _).mono ?_; rintro e w' ⟨rfl, rfl⟩) | (go_at_call 86; refine (logFaultS_c _ _ _ _ ?_).mono ?_; exact h.below (by repeat (first | assumption | exact Below.refl _ _ | (refine below_trans ?_ (by assumption)) | apply below_alloc | apply below_drewN | apply Below.drew)); rintro e w1 ⟨rfl, hb1⟩; have g1 := liesDoer (x := ⟨true, L, lg, C⟩) (hl.below hb1); dsimp only at g1))
      · go_ret; refine ⟨ret_int ?_, by repeat (first | assumption | exact Below.refl _ _ | (refine below_trans ?_ (by assumption)) | apply below_alloc | apply below_drewN | apply Below.drew)⟩; rw [← HR.out]; go_light; simp_all
      · go_ret; refine ⟨ret_int ?_, by repeat (first | assumption | exact Below.refl _ _ | (refine below_trans ?_ (by assumption)) | apply below_alloc | apply below_drewN | apply Below.drew)⟩; rw [← HR.out]; go_light; simp_all
      go_quiet ((first | (go_at_call 84; exact Calls.quiet_of_same ((l1In_c _ _ _ _).mono fun e w' ⟨he, hw⟩ => ⟨he, hw.symm⟩))))
      go_wp2
      all_goals (go_ret; refine ⟨ret_int ?_, by repeat (first | assumption | exact Below.refl _ _ | (refine below_trans ?_ (by assumption)) | apply below_alloc | apply below_drewN | apply Below.drew)⟩; rw [← HR.out]; go_light; simp_all)
    · have HR2 : Hid (r = 0) := HR.out.symm
      clear HR
      have hl0 := logF_nil
      cases K
      · have g0 := liesDoer (x := ⟨false, 0, [], 0⟩) hl
        dsimp only at g0
        go_enter Tryz.func88, Tryz.ntmps88
        go_wp2_with (first | (go_at_call 85; refine (l9View_c 0 _).mono ?_; rintro e w' ⟨rfl, rfl⟩) | (go_at_call 86; refine (logFaultS_c [] A c _ ?_).mono ?_; exact h.below (by repeat (first | assumption | exact Below.refl _ _ | (refine below_trans ?_ (by assumption)) | apply below_alloc | apply below_drewN | apply Below.drew)); rintro e w1 ⟨rfl, hb1⟩; rw [hl0]; have g1 := liesDoer (x := ⟨false, 0, [], 0⟩) (hl.below hb1); dsimp only at g1))
        go_quiet ((first | (go_at_call 84; exact Calls.quiet_of_same ((l1In_c _ _ _ _).mono fun e w' ⟨he, hw⟩ => ⟨he, hw.symm⟩))))
        go_wp2
        go_ret; refine ⟨ret_int ?_, by repeat (first | assumption | exact Below.refl _ _ | (refine below_trans ?_ (by assumption)) | apply below_alloc | apply below_drewN | apply Below.drew)⟩; rw [HR2.out]
      · have g0 := liesDoer (x := ⟨true, 0, [], 0⟩) hl
        dsimp only at g0
        go_enter Tryz.func88, Tryz.ntmps88
        go_wp2_with (first | (go_at_call 85; refine (l9View_c 0 _).mono ?_; rintro e w' ⟨rfl, rfl⟩) | (go_at_call 86; refine (logFaultS_c [] A c _ ?_).mono ?_; exact h.below (by repeat (first | assumption | exact Below.refl _ _ | (refine below_trans ?_ (by assumption)) | apply below_alloc | apply below_drewN | apply Below.drew)); rintro e w1 ⟨rfl, hb1⟩; rw [hl0]; have g1 := liesDoer (x := ⟨true, 0, [], 0⟩) (hl.below hb1); dsimp only at g1))
        go_quiet ((first | (go_at_call 84; exact Calls.quiet_of_same ((l1In_c _ _ _ _).mono fun e w' ⟨he, hw⟩ => ⟨he, hw.symm⟩))))
        go_wp2
        go_ret; refine ⟨ret_int ?_, by repeat (first | assumption | exact Below.refl _ _ | (refine below_trans ?_ (by assumption)) | apply below_alloc | apply below_drewN | apply Below.drew)⟩; rw [HR2.out]
  cases K with
  | true => exact main true hl (.inl rfl)
  | false =>
    by_cases hz : L = 0 ∧ lg = [] ∧ C = 0
    · exact main false hl (.inr hz)
    · clear main
      have hd : doerF ⟨false, L, lg, C⟩ = 1 := by
        by_cases h1 : L = 0 <;> by_cases h2 : lg = [] <;> by_cases h3 : C = 0 <;> simp_all [doerF, List.length_pos_iff]
      rw [hd]; clear hd
      have g0 := liesDoer (x := ⟨false, L, lg, C⟩) hl
      dsimp only at g0
      clear hl
      by_cases h1 : L = 0
      · subst h1
        by_cases h2 : lg = []
        · subst h2
          have h3 : (C != 0) = true := by simpa using hz
          clear hz
          go_enter Tryz.func88, Tryz.ntmps88
          go_wp2
          go_ret; exact ⟨rfl, by repeat (first | assumption | exact Below.refl _ _ | (refine below_trans ?_ (by assumption)) | apply below_alloc | apply below_drewN | apply Below.drew)⟩
        · have h4 : 0 < lg.length := List.length_pos_iff.2 h2
          have h3 : decide (0 < lg.length) = true := by simpa using h4
          clear hz h2
          go_enter Tryz.func88, Tryz.ntmps88
          go_wp2
          go_ret; exact ⟨rfl, by repeat (first | assumption | exact Below.refl _ _ | (refine below_trans ?_ (by assumption)) | apply below_alloc | apply below_drewN | apply Below.drew)⟩
      · have h3 : (L != 0) = true := by simpa using h1
        clear hz h1
        go_enter Tryz.func88, Tryz.ntmps88
        go_wp2
        go_ret; exact ⟨rfl, by repeat (first | assumption | exact Below.refl _ _ | (refine below_trans ?_ (by assumption)) | apply below_alloc | apply below_drewN | apply Below.drew)⟩
end Go.Proofs.YtdjfehjddfbbjaaGreat

/- Faults of a node: what the reference's l9Fault comes to. -/
set_option linter.unusedVariables false
set_option linter.unusedSimpArgs false
namespace Go.Proofs.YtdjfehjddfbbjaaGreat
open Go Go.RowKit Mk
theorem sizesB_eq (n : SReplica) : sizesB n = (n.Normal && n.Last != n.View || !((n.Oks.length : Int) == oksN n && (n.Asks.length : Int) == asksN n && (n.Doers.length : Int) == asksN n)) := by
  unfold sizesB
  cases n.Normal && n.Last != n.View <;> simp [bne, Bool.or_assoc]
set_option maxRecDepth 100000 in
set_option maxHeartbeats 2000000 in
theorem l9Fault_c (n : SReplica) (p : Addr) (w : World) (h : At kReplica w p n) :
    Calls Tryz.prog 36 #[.pointer (some p)] w fun e w' => e = .returned (.int .i64 (repF n)) ∧ Below w.heap.size w w' := by
  have hat := h
  obtain ⟨cs, hl, hr⟩ := h
  obtain ⟨A5, c5, A7, c7, A8, c8, A9, c9, rfl, h5, h7, h8, h9⟩ := kReplica_open hr
  clear hr
  have hlen5 := h5.le63
  have hlen7 := h7.le63
  have hlen9 := h9.le63
  have g0 := liesReplica hl
  cases h1 : wi n.Size 1 5 with
  | false =>
    have hr : repF n = 3 := by simp [repF, h1]
    rw [hr]; clear hr
    go_enter Tryz.func36, Tryz.ntmps36
    go_wp2_with fail
    go_quiet ((first | (go_at_call 84; exact Calls.quiet_of_same ((l1In_c _ _ _ _).mono fun e w' ⟨he, hw⟩ => ⟨he, hw.symm⟩)) | (go_at_call 85; exact Calls.quiet_of_same ((l9View_c _ _).mono fun e w' ⟨he, hw⟩ => ⟨he, hw.symm⟩))))
    go_wp2
    go_ret; exact ⟨rfl, by repeat (first | assumption | exact Below.refl _ _ | (refine below_trans ?_ (by assumption)) | apply below_alloc | apply below_drewN | apply Below.drew)⟩
  | true =>
  obtain ⟨b1, b2⟩ := wi_b h1
  have hw : IntKind.i64.wrap (n.Size - 1) = n.Size - 1 := IntWalk.i64_in _ (by omega)
  cases hc : (wi n.Id 0 (n.Size - 1) && wi n.View 0 200 && wi n.Last 0 n.View) with
  | false =>
    have hr : repF n = 3 := by unfold repF; rw [if_pos (by rw [h1]; simp only [Bool.true_and]; rw [hc]; rfl)]
    rw [hr]; clear hr
    cases h2 : wi n.Id 0 (n.Size - 1)
    · clear hc
      go_enter Tryz.func36, Tryz.ntmps36
      go_wp2_with fail
      go_quiet ((first | (go_at_call 84; exact Calls.quiet_of_same ((l1In_c _ _ _ _).mono fun e w' ⟨he, hw⟩ => ⟨he, hw.symm⟩)) | (go_at_call 85; exact Calls.quiet_of_same ((l9View_c _ _).mono fun e w' ⟨he, hw⟩ => ⟨he, hw.symm⟩))))
      go_wp2
      go_ret; exact ⟨rfl, by repeat (first | assumption | exact Below.refl _ _ | (refine below_trans ?_ (by assumption)) | apply below_alloc | apply below_drewN | apply Below.drew)⟩
    · cases h3 : wi n.View 0 200
      · clear hc
        go_enter Tryz.func36, Tryz.ntmps36
        go_wp2_with fail
        go_quiet ((first | (go_at_call 84; exact Calls.quiet_of_same ((l1In_c _ _ _ _).mono fun e w' ⟨he, hw⟩ => ⟨he, hw.symm⟩)) | (go_at_call 85; exact Calls.quiet_of_same ((l9View_c _ _).mono fun e w' ⟨he, hw⟩ => ⟨he, hw.symm⟩))))
        go_wp2
        go_ret; exact ⟨rfl, by repeat (first | assumption | exact Below.refl _ _ | (refine below_trans ?_ (by assumption)) | apply below_alloc | apply below_drewN | apply Below.drew)⟩
      · rw [h2, h3] at hc
        have h4 : wi n.Last 0 n.View = false := by simpa using hc
        clear hc
        go_enter Tryz.func36, Tryz.ntmps36
        go_wp2_with fail
        go_quiet ((first | (go_at_call 84; exact Calls.quiet_of_same ((l1In_c _ _ _ _).mono fun e w' ⟨he, hw⟩ => ⟨he, hw.symm⟩)) | (go_at_call 85; exact Calls.quiet_of_same ((l9View_c _ _).mono fun e w' ⟨he, hw⟩ => ⟨he, hw.symm⟩))))
        go_wp2
        go_ret; exact ⟨rfl, by repeat (first | assumption | exact Below.refl _ _ | (refine below_trans ?_ (by assumption)) | apply below_alloc | apply below_drewN | apply Below.drew)⟩
  | true =>
    simp only [Bool.and_eq_true] at hc
    obtain ⟨⟨h2, h3⟩, h4⟩ := hc
    obtain ⟨b3, b4⟩ := wi_b h3
    cases q5 : (logF n.Log != 0) with
    | true =>
      have hr : repF n = logF n.Log := by unfold repF; rw [if_neg (by rw [h1, h2, h3, h4]; simp), if_pos q5]
      have HR := Lib.hid hr; clear hr
      go_enter Tryz.func36, Tryz.ntmps36
      go_wp2_with fail
      go_quiet ((first | (go_at_call 84; exact Calls.quiet_of_same ((l1In_c _ _ _ _).mono fun e w' ⟨he, hw⟩ => ⟨he, hw.symm⟩)) | (go_at_call 85; exact Calls.quiet_of_same ((l9View_c _ _).mono fun e w' ⟨he, hw⟩ => ⟨he, hw.symm⟩))))
      go_wp2_with (first | (go_at_call 86; refine (logFaultS_c _ _ _ _ ?_).mono ?_; exact h5.below (by repeat (first | assumption | exact Below.refl _ _ | (refine below_trans ?_ (by assumption)) | apply below_alloc | apply below_drewN | apply Below.drew)); rintro e w1 ⟨rfl, hb1⟩))
      go_ret; exact ⟨ret_int HR.out.symm, by repeat (first | assumption | exact Below.refl _ _ | (refine below_trans ?_ (by assumption)) | apply below_alloc | apply below_drewN | apply Below.drew)⟩
    | false =>
    cases q6 : wi n.Commit 0 n.Log.length with
    | false =>
      have hr : repF n = 3 := by unfold repF; rw [if_neg (by rw [h1, h2, h3, h4]; simp), if_neg (by rw [q5]; simp), if_pos (by rw [q6]; rfl)]
      have HR := Lib.hid hr; clear hr
      go_enter Tryz.func36, Tryz.ntmps36
      go_wp2_with fail
      go_quiet ((first | (go_at_call 84; exact Calls.quiet_of_same ((l1In_c _ _ _ _).mono fun e w' ⟨he, hw⟩ => ⟨he, hw.symm⟩)) | (go_at_call 85; exact Calls.quiet_of_same ((l9View_c _ _).mono fun e w' ⟨he, hw⟩ => ⟨he, hw.symm⟩))))
      go_wp2_with (first | (go_at_call 86; refine (logFaultS_c _ _ _ _ ?_).mono ?_; exact h5.below (by repeat (first | assumption | exact Below.refl _ _ | (refine below_trans ?_ (by assumption)) | apply below_alloc | apply below_drewN | apply Below.drew)); rintro e w1 ⟨rfl, hb1⟩; have g1 := liesReplica ((hl.below (by repeat (first | assumption | exact Below.refl _ _ | (refine below_trans ?_ (by assumption)) | apply below_alloc | apply below_drewN | apply Below.drew)) : Lies w1 _ _))) | (go_at_call 84; refine (l1In_c _ _ _ _).mono ?_; rintro e w' ⟨rfl, rfl⟩))
      go_ret; exact ⟨ret_int HR.out.symm, by repeat (first | assumption | exact Below.refl _ _ | (refine below_trans ?_ (by assumption)) | apply below_alloc | apply below_drewN | apply Below.drew)⟩
    | true =>
      have hr := repF_tail n h1 h2 h3 (by rw [h4]; rfl) q5 (by rw [q6]; rfl)
      have HR := Lib.hid hr; clear hr
      go_enter Tryz.func36, Tryz.ntmps36
      go_wp2_with fail
      go_quiet ((first | (go_at_call 84; exact Calls.quiet_of_same ((l1In_c _ _ _ _).mono fun e w' ⟨he, hw⟩ => ⟨he, hw.symm⟩)) | (go_at_call 85; exact Calls.quiet_of_same ((l9View_c _ _).mono fun e w' ⟨he, hw⟩ => ⟨he, hw.symm⟩))))
      go_wp2_with (first | (go_at_call 86; refine (logFaultS_c _ _ _ _ ?_).mono ?_; exact h5.below (by repeat (first | assumption | exact Below.refl _ _ | (refine below_trans ?_ (by assumption)) | apply below_alloc | apply below_drewN | apply Below.drew)); rintro e w1 ⟨rfl, hb1⟩; have g1 := liesReplica ((hl.below (by repeat (first | assumption | exact Below.refl _ _ | (refine below_trans ?_ (by assumption)) | apply below_alloc | apply below_drewN | apply Below.drew)) : Lies w1 _ _)); have HB1 : Below w.heap.size w w1 := (by repeat (first | assumption | exact Below.refl _ _ | (refine below_trans ?_ (by assumption)) | apply below_alloc | apply below_drewN | apply Below.drew))) | (go_at_call 84; refine (l1In_c _ _ _ _).mono ?_; rintro e w' ⟨rfl, rfl⟩))
      clear g0 hb1
      go_upto_region 9 with fail
      go_cut [86] (fun s W => s = .bool (sizesB n) ∧ Below w.heap.size w W)
      case first =>
        have hz := sizesB_eq n
        have HZ := Lib.hid hz; clear hz
        generalize hx : ((n.Oks.length : Int) == oksN n && (n.Asks.length : Int) == asksN n && (n.Doers.length : Int) == asksN n) = x at HZ
        have hS := fun (W : World) (hW : Below w.heap.size w W) => l9Sizes_c n p W (hat.below hW) b3 b1 b2
        rw [hx] at hS; clear hx
        cases hN : n.Normal with
        | false =>
          go_quiet ((go_at_call 87; exact Calls.quiet_of (hS _ (by repeat (first | assumption | exact Below.refl _ _ | (refine below_trans ?_ (by assumption)) | apply below_alloc | apply below_drewN | apply Below.drew)))))
          go_wp2_with fail; go_meet; exact ⟨by rw [HZ.out, hN]; simp, by repeat (first | assumption | exact Below.refl _ _ | (refine below_trans ?_ (by assumption)) | apply below_alloc | apply below_drewN | apply Below.drew)⟩
        | true =>
          cases hL : (n.Last != n.View) with
          | true =>
            go_quiet (fail)
            go_wp2_with fail; go_meet; exact ⟨by rw [HZ.out, hN, hL]; simp, by repeat (first | assumption | exact Below.refl _ _ | (refine below_trans ?_ (by assumption)) | apply below_alloc | apply below_drewN | apply Below.drew)⟩
          | false =>
            go_quiet ((go_at_call 87; exact Calls.quiet_of (hS _ (by repeat (first | assumption | exact Below.refl _ _ | (refine below_trans ?_ (by assumption)) | apply below_alloc | apply below_drewN | apply Below.drew)))))
            go_wp2_with fail; go_meet; exact ⟨by rw [HZ.out, hN, hL]; simp, by repeat (first | assumption | exact Below.refl _ _ | (refine below_trans ?_ (by assumption)) | apply below_alloc | apply below_drewN | apply Below.drew)⟩
      case rest =>
        obtain ⟨rfl, hB2⟩ := hcut
        clear g1 HB1
        generalize hx : sizesB n = x at HR ⊢
        cases x
        · have hp : ∀ x : Bool, n.Oks.any (fun k => !wi k 0 n.Log.length) = x → repF n = if x then 3 else first doerF n.Doers := by intro x hx; rw [HR.out, if_neg (by simp), hx]
          have HP := Lib.hid hp
          clear hp HR
          go_wp2_with fail
          go_loopw [5] (fun i W => ∃ k : Nat, k ≤ n.Oks.length ∧ i = .int .i64 k ∧ (n.Oks.take k).any (fun k => !wi k 0 n.Log.length) = false ∧ Below w.heap.size w W) (fun i _ => n.Oks.length - (intOf i).toNat)
          case atStart => exact ⟨0, Nat.zero_le _, rfl, by simp, hB2⟩
          case round =>
            obtain ⟨k, hk, rfl, hf, hb⟩ := hrel
            have gk := liesReplica (hl.below hb)
            by_cases hlt : k < n.Oks.length
            · have HS := Lib.hid hf; clear hf
              obtain ⟨a, cs, ea, hl', hr'⟩ := (h7.below hb).at (List.getElem?_eq_getElem hlt)
              subst ea
              obtain rfl := hr'
              have f0 := hl'.c0
              simp only [show kInt.sz = 1 from rfl, Nat.mul_one] at f0
              clear hl'
              generalize hy : n.Oks[k] = y at f0
              have HY := Lib.hid hy; clear hy
              cases hq : wi y 0 n.Log.length with
              | false =>
                go_wp2_with (first | (go_at_call 84; refine (l1In_c _ _ _ _).mono ?_; rintro e w' ⟨rfl, rfl⟩))
                go_ret
                refine ⟨ret_int ?_, by repeat (first | assumption | exact Below.refl _ _ | (refine below_trans ?_ (by assumption)) | apply below_alloc | apply below_drewN | apply Below.drew)⟩
                rw [HP.out true]; rfl
                exact List.any_eq_true.2 ⟨n.Oks[k], List.getElem_mem hlt, by rw [HY.out, hq]; rfl⟩
              | true =>
                go_wp2_with (first | (go_at_call 84; refine (l1In_c _ _ _ _).mono ?_; rintro e w' ⟨rfl, rfl⟩))
                exact ⟨⟨k + 1, hlt, by go_num, by rw [any_take_succ hlt, HS.out, HY.out, hq]; rfl, by repeat (first | assumption | exact Below.refl _ _ | (refine below_trans ?_ (by assumption)) | apply below_alloc | apply below_drewN | apply Below.drew)⟩, by simp [intOf]; omega⟩
            · have hq := hf
              rw [List.take_of_length_le (by omega)] at hq
              have HQ := Lib.hid (HP.out false hq)
              clear hf hq HP
              go_wp2_with fail
              clear gk
              go_loopw [6] (fun i W => ∃ k : Nat, k ≤ n.Doers.length ∧ i = .int .i64 k ∧ first doerF (n.Doers.drop k) = first doerF n.Doers ∧ Below w.heap.size w W) (fun i _ => n.Doers.length - (intOf i).toNat)
              case atStart => exact ⟨0, Nat.zero_le _, rfl, rfl, hb⟩
              case round =>
                clear hlt hk hb
                obtain ⟨k, hk, rfl, hf, hb⟩ := hrel
                have gk := liesReplica (hl.below hb)
                by_cases hlt : k < n.Doers.length
                · have hs := first_drop doerF n.Doers k hlt
                  have HS := Lib.hid (hs.symm.trans hf); clear hs hf
                  obtain ⟨a, ea, hd⟩ := (h9.below hb).at_ hlt
                  subst ea
                  simp only [show kDoer.sz = 4 from rfl] at hd
                  generalize hy : n.Doers[k] = y at hd HS
                  go_wp2_with (go_at_call 88; refine (l9Doer_c y _ _ hd).mono ?_; rintro e w' ⟨rfl, hb5⟩)
                  · go_ret
                    exact ⟨ret_int (by rw [HQ.out]; simp only [Bool.false_eq_true, if_false]; rw [← HS.out, if_pos (by assumption)]), by repeat (first | assumption | exact Below.refl _ _ | (refine below_trans ?_ (by assumption)) | apply below_alloc | apply below_drewN | apply Below.drew)⟩
                  · exact ⟨⟨k + 1, hlt, by go_num, by rw [← HS.out, if_neg (by simp_all)], by repeat (first | assumption | exact Below.refl _ _ | (refine below_trans ?_ (by assumption)) | apply below_alloc | apply below_drewN | apply Below.drew)⟩, by simp [intOf]; omega⟩
                · have HF := Lib.hid hf; clear hf
                  go_wp2
                  go_ret
                  exact ⟨ret_int (by rw [HQ.out]; simp only [Bool.false_eq_true, if_false]; rw [← HF.out, List.drop_of_length_le (by omega)]; rfl), by repeat (first | assumption | exact Below.refl _ _ | (refine below_trans ?_ (by assumption)) | apply below_alloc | apply below_drewN | apply Below.drew)⟩
        · go_wp2
          go_ret; exact ⟨ret_int HR.out.symm, hB2⟩
end Go.Proofs.YtdjfehjddfbbjaaGreat

/- Faults of a mail: what the reference's functions come to (written by gB3.py, own work). -/
set_option linter.unusedVariables false
set_option linter.unusedSimpArgs false
namespace Go.Proofs.YtdjfehjddfbbjaaGreat
open Go Go.RowKit Mk
theorem kind_cases {K : Int} (h : wi K 1 6 = true) : K = 1 ∨ K = 2 ∨ K = 3 ∨ K = 4 ∨ K = 5 ∨ K = 6 := by
  obtain ⟨a, b⟩ := wi_b h; omega
set_option maxRecDepth 100000 in
set_option maxHeartbeats 4000000 in
theorem l9Numbers_c (n : SReplica) (p : Addr) (m : SMail) (B : Option Addr) (d : Nat) (w : World) (h : At kReplica w p n) (hs : wi n.Size 1 5 = true) (hk : wi m.Kind 1 6 = true) :
    Calls Tryz.prog 115 #[.pointer (some p), .agg #[.int .i64 m.Kind, .int .i64 m.From, .int .i64 m.To, .int .i64 m.View, .int .i64 m.At, .bool m.Has, .int .i64 m.Entry.Client, .int .i64 m.Entry.Seq, .int .i64 m.Entry.Op.Kind, .int .i64 m.Entry.Op.Vol, .int .i64 m.Entry.Op.At, .int .i64 m.Entry.Op.Value, .int .i64 m.Last, .slice B m.Log.length d, .int .i64 m.Commit]] w fun e w' => e = .returned (.bool (numB n m)) ∧ Below w.heap.size w w' := by
  obtain ⟨cs, hl, hr⟩ := h
  obtain ⟨A5, c5, A7, c7, A8, c8, A9, c9, rfl, h5, h7, h8, h9⟩ := kReplica_open hr
  clear hr h5 h7 h8 h9
  obtain ⟨g0, g1, g2, g3, g4, g5, g6, g7, g8, g9⟩ := liesReplica hl
  clear hl g2 g3 g4 g5 g6 g7 g8 g9
  obtain ⟨b1, b2⟩ := wi_b hs
  have hw : IntKind.i64.wrap (n.Size - 1) = n.Size - 1 := IntWalk.i64_in _ (by omega)
  replace g0 := fun o => cell_alloc g0 o
  replace g1 := fun o => cell_alloc g1 o
  obtain ⟨K, F, T, V, P_, H, E, L, lg, C⟩ := m
  dsimp only at hk ⊢
  cases c1 : wi F 0 (n.Size - 1)
  · have e : numB n ⟨K, F, T, V, P_, H, E, L, lg, C⟩ = false := by simp [numB, c1]
    rw [e]; clear e
    go_enter Tryz.func115, Tryz.ntmps115
    go_wp2_with fail
    go_quiet ((first | (go_at_call 84; exact Calls.quiet_of_same ((l1In_c _ _ _ _).mono fun e w' ⟨he, hw⟩ => ⟨he, hw.symm⟩)) | (go_at_call 85; exact Calls.quiet_of_same ((l9View_c _ _).mono fun e w' ⟨he, hw⟩ => ⟨he, hw.symm⟩))))
    go_wp2
    go_ret; exact ⟨rfl, by repeat (first | assumption | exact Below.refl _ _ | (refine below_trans ?_ (by assumption)) | apply below_alloc | apply below_drewN | apply Below.drew)⟩
  · cases c2 : (F == n.Id)
    · cases c3 : wi V 0 200
      · have e : numB n ⟨K, F, T, V, P_, H, E, L, lg, C⟩ = false := by simp [numB, c3]
        rw [e]; clear e
        go_enter Tryz.func115, Tryz.ntmps115
        go_wp2_with fail
        go_quiet ((first | (go_at_call 84; exact Calls.quiet_of_same ((l1In_c _ _ _ _).mono fun e w' ⟨he, hw⟩ => ⟨he, hw.symm⟩)) | (go_at_call 85; exact Calls.quiet_of_same ((l9View_c _ _).mono fun e w' ⟨he, hw⟩ => ⟨he, hw.symm⟩))))
        go_wp2
        go_ret; exact ⟨rfl, by repeat (first | assumption | exact Below.refl _ _ | (refine below_trans ?_ (by assumption)) | apply below_alloc | apply below_drewN | apply Below.drew)⟩
      · have e : numB n ⟨K, F, T, V, P_, H, E, L, lg, C⟩ = ((!(K == 1 || K == 2) || wi P_ 0 40) && (!(K == 4) || wi L 0 V) && (!(K == 1) || wi C 0 40)) := by
          simp only [numB, c1, c3, bne, c2]; simp
        rw [e]; clear e
        rcases kind_cases hk with rfl | rfl | rfl | rfl | rfl | rfl
        all_goals
          go_enter Tryz.func115, Tryz.ntmps115
          go_wp2_with fail
          go_quiet ((first | (go_at_call 84; exact Calls.quiet_of_same ((l1In_c _ _ _ _).mono fun e w' ⟨he, hw⟩ => ⟨he, hw.symm⟩)) | (go_at_call 85; exact Calls.quiet_of_same ((l9View_c _ _).mono fun e w' ⟨he, hw⟩ => ⟨he, hw.symm⟩))))
          go_wp2_with (first | (go_at_call 84; refine (l1In_c _ _ _ _).mono ?_; rintro e w' ⟨rfl, rfl⟩))
          all_goals (go_ret; refine ⟨ret_bool ?_, by repeat (first | assumption | exact Below.refl _ _ | (refine below_trans ?_ (by assumption)) | apply below_alloc | apply below_drewN | apply Below.drew)⟩; go_light; simp_all)
    · have e : numB n ⟨K, F, T, V, P_, H, E, L, lg, C⟩ = false := by simp only [numB, bne, c2]; simp
      rw [e]; clear e
      go_enter Tryz.func115, Tryz.ntmps115
      go_wp2_with fail
      go_quiet ((first | (go_at_call 84; exact Calls.quiet_of_same ((l1In_c _ _ _ _).mono fun e w' ⟨he, hw⟩ => ⟨he, hw.symm⟩)) | (go_at_call 85; exact Calls.quiet_of_same ((l9View_c _ _).mono fun e w' ⟨he, hw⟩ => ⟨he, hw.symm⟩))))
      go_wp2
      go_ret; exact ⟨rfl, by repeat (first | assumption | exact Below.refl _ _ | (refine below_trans ?_ (by assumption)) | apply below_alloc | apply below_drewN | apply Below.drew)⟩
set_option maxRecDepth 100000 in
set_option maxHeartbeats 4000000 in
theorem l9Bare_c (m : SMail) (B : Option Addr) (d : Nat) (w : World) (hB : RdS kEntry w B d m.Log) (hk : wi m.Kind 1 6 = true) :
    Calls Tryz.prog 117 #[.agg #[.int .i64 m.Kind, .int .i64 m.From, .int .i64 m.To, .int .i64 m.View, .int .i64 m.At, .bool m.Has, .int .i64 m.Entry.Client, .int .i64 m.Entry.Seq, .int .i64 m.Entry.Op.Kind, .int .i64 m.Entry.Op.Vol, .int .i64 m.Entry.Op.At, .int .i64 m.Entry.Op.Value, .int .i64 m.Last, .slice B m.Log.length d, .int .i64 m.Commit]] w fun e w' => e = .returned (.bool (bareB m)) ∧ Below w.heap.size w w' := by
  have hlen := hB.le63
  obtain ⟨K, F, T, V, P_, H, E, L, lg, C⟩ := m
  dsimp only at hk hB hlen ⊢
  clear hB
  rcases kind_cases hk with rfl | rfl | rfl | rfl | rfl | rfl
  all_goals
    go_enter Tryz.func117, Tryz.ntmps117
    go_wp2
    all_goals (go_ret; refine ⟨ret_bool ?_, by repeat (first | assumption | exact Below.refl _ _ | (refine below_trans ?_ (by assumption)) | apply below_alloc | apply below_drewN | apply Below.drew)⟩; go_light; simp_all [bareB, entry_beq, List.length_pos_iff])
end Go.Proofs.YtdjfehjddfbbjaaGreat

/- Faults of a mail: what the reference's l9Mail comes to (written by gB4.py, own work). -/
set_option linter.unusedVariables false
set_option linter.unusedSimpArgs false
namespace Go.Proofs.YtdjfehjddfbbjaaGreat
open Go Go.RowKit Mk

set_option maxRecDepth 100000 in
set_option maxHeartbeats 4000000 in
theorem l9Mail_1 (n : SReplica) (p : Addr) (F T V P_ : Int) (H : Bool) (E : SEntry) (L : Int) (lg : List SEntry) (C : Int) (B : Option Addr) (d : Nat) (w : World) (nb bb : Bool) (g0 : ∀ o, (w.alloc o).cell? p = some (.int .i64 n.Id)) (hB : RdS kEntry w B d lg) (ht : (T != n.Id) = false)
    (hN : Hid (∀ W, Below w.heap.size w W → Calls Tryz.prog 115 #[.pointer (some p), .agg #[.int .i64 1, .int .i64 F, .int .i64 T, .int .i64 V, .int .i64 P_, .bool H, .int .i64 E.Client, .int .i64 E.Seq, .int .i64 E.Op.Kind, .int .i64 E.Op.Vol, .int .i64 E.Op.At, .int .i64 E.Op.Value, .int .i64 L, .slice B lg.length d, .int .i64 C]] W fun e w' => e = .returned (.bool nb) ∧ Below W.heap.size W w'))
    (hBare : Hid (∀ W, Below w.heap.size w W → Calls Tryz.prog 117 #[.agg #[.int .i64 1, .int .i64 F, .int .i64 T, .int .i64 V, .int .i64 P_, .bool H, .int .i64 E.Client, .int .i64 E.Seq, .int .i64 E.Op.Kind, .int .i64 E.Op.Vol, .int .i64 E.Op.At, .int .i64 E.Op.Value, .int .i64 L, .slice B lg.length d, .int .i64 C]] W fun e w' => e = .returned (.bool bb) ∧ Below W.heap.size W w')) :
    Calls Tryz.prog 71 #[.pointer (some p), .agg #[.int .i64 1, .int .i64 F, .int .i64 T, .int .i64 V, .int .i64 P_, .bool H, .int .i64 E.Client, .int .i64 E.Seq, .int .i64 E.Op.Kind, .int .i64 E.Op.Vol, .int .i64 E.Op.At, .int .i64 E.Op.Value, .int .i64 L, .slice B lg.length d, .int .i64 C]] w fun e w' => e = .returned (.int .i64 (if !nb then 3 else if (1 == 4 || 1 == 5) && logF lg != 0 then logF lg else if (1 == 4 || 1 == 5) && !wi C 0 lg.length then 3 else if 1 == 1 && H && entryF E != 0 then entryF E else if !bb then 1 else 0)) ∧ Below w.heap.size w w' := by
  have hlen := hB.le63
  have hk : wi 1 1 6 = true := rfl
  generalize hr : (if !nb then 3 else if (1 == 4 || 1 == 5) && logF lg != 0 then logF lg else if (1 == 4 || 1 == 5) && !wi C 0 lg.length then 3 else if 1 == 1 && H && entryF E != 0 then entryF E else if !bb then 1 else 0 : Int) = r
  have HR := Lib.hid hr; clear hr
  cases H
  · go_enter Tryz.func71, Tryz.ntmps71
    go_wp2_with fail
    go_quiet ((first | (go_at_call 84; exact Calls.quiet_of_same ((l1In_c _ _ _ _).mono fun e w' ⟨he, hw⟩ => ⟨he, hw.symm⟩))))
    go_wp2_with (first | (go_at_call 115; refine (hN.out _ (by repeat (first | assumption | exact Below.refl _ _ | (refine below_trans ?_ (by assumption)) | apply below_alloc | apply below_drewN | apply Below.drew))).mono ?_; rintro e w1 ⟨rfl, hb1⟩; have i1 : InMail w ⟨1, F, T, V, P_, false, E, L, lg, C⟩ 51 B d w1 := (by unfold InMail; repeat (first | assumption | exact Below.refl _ _ | (refine below_trans ?_ (by assumption)) | apply below_alloc | apply below_drewN | apply Below.drew)); have k1 := i1.seen; dsimp only at k1) | (go_at_call 86; refine (logFaultS_c _ _ _ _ ?_).mono ?_; exact hB.below (by repeat (first | assumption | exact Below.refl _ _ | (refine below_trans ?_ (by assumption)) | apply below_alloc | apply below_drewN | apply Below.drew)); rintro e w2 ⟨rfl, hb2⟩; have i2 : InMail w ⟨1, F, T, V, P_, false, E, L, lg, C⟩ 51 B d w2 := (by unfold InMail; repeat (first | assumption | exact Below.refl _ _ | (refine below_trans ?_ (by assumption)) | apply below_alloc | apply below_drewN | apply Below.drew)); have k2 := i2.seen; dsimp only at k2) | (go_at_call 84; refine (l1In_c _ _ _ _).mono ?_; rintro e w' ⟨rfl, rfl⟩) | (go_at_call 116; refine (entryFaultS_c E _).mono ?_; rintro e w3 ⟨rfl, hb3⟩; have i3 : InMail w ⟨1, F, T, V, P_, false, E, L, lg, C⟩ 51 B d w3 := (by unfold InMail; repeat (first | assumption | exact Below.refl _ _ | (refine below_trans ?_ (by assumption)) | apply below_alloc | apply below_drewN | apply Below.drew)); have k3 := i3.seen; dsimp only at k3) | (go_at_call 117; refine (hBare.out _ (by repeat (first | assumption | exact Below.refl _ _ | (refine below_trans ?_ (by assumption)) | apply below_alloc | apply below_drewN | apply Below.drew))).mono ?_; rintro e w4 ⟨rfl, hb4⟩))
    all_goals (go_ret; refine ⟨ret_int ?_, by repeat (first | assumption | exact Below.refl _ _ | (refine below_trans ?_ (by assumption)) | apply below_alloc | apply below_drewN | apply Below.drew)⟩; rw [← HR.out]; clear HR hN hBare g0; go_light; simp_all)
  · go_enter Tryz.func71, Tryz.ntmps71
    go_wp2_with fail
    go_quiet ((first | (go_at_call 84; exact Calls.quiet_of_same ((l1In_c _ _ _ _).mono fun e w' ⟨he, hw⟩ => ⟨he, hw.symm⟩))))
    go_wp2_with (first | (go_at_call 115; refine (hN.out _ (by repeat (first | assumption | exact Below.refl _ _ | (refine below_trans ?_ (by assumption)) | apply below_alloc | apply below_drewN | apply Below.drew))).mono ?_; rintro e w1 ⟨rfl, hb1⟩; have i1 : InMail w ⟨1, F, T, V, P_, true, E, L, lg, C⟩ 51 B d w1 := (by unfold InMail; repeat (first | assumption | exact Below.refl _ _ | (refine below_trans ?_ (by assumption)) | apply below_alloc | apply below_drewN | apply Below.drew)); have k1 := i1.seen; dsimp only at k1) | (go_at_call 86; refine (logFaultS_c _ _ _ _ ?_).mono ?_; exact hB.below (by repeat (first | assumption | exact Below.refl _ _ | (refine below_trans ?_ (by assumption)) | apply below_alloc | apply below_drewN | apply Below.drew)); rintro e w2 ⟨rfl, hb2⟩; have i2 : InMail w ⟨1, F, T, V, P_, true, E, L, lg, C⟩ 51 B d w2 := (by unfold InMail; repeat (first | assumption | exact Below.refl _ _ | (refine below_trans ?_ (by assumption)) | apply below_alloc | apply below_drewN | apply Below.drew)); have k2 := i2.seen; dsimp only at k2) | (go_at_call 84; refine (l1In_c _ _ _ _).mono ?_; rintro e w' ⟨rfl, rfl⟩) | (go_at_call 116; refine (entryFaultS_c E _).mono ?_; rintro e w3 ⟨rfl, hb3⟩; have i3 : InMail w ⟨1, F, T, V, P_, true, E, L, lg, C⟩ 51 B d w3 := (by unfold InMail; repeat (first | assumption | exact Below.refl _ _ | (refine below_trans ?_ (by assumption)) | apply below_alloc | apply below_drewN | apply Below.drew)); have k3 := i3.seen; dsimp only at k3) | (go_at_call 117; refine (hBare.out _ (by repeat (first | assumption | exact Below.refl _ _ | (refine below_trans ?_ (by assumption)) | apply below_alloc | apply below_drewN | apply Below.drew))).mono ?_; rintro e w4 ⟨rfl, hb4⟩))
    all_goals (go_ret; refine ⟨ret_int ?_, by repeat (first | assumption | exact Below.refl _ _ | (refine below_trans ?_ (by assumption)) | apply below_alloc | apply below_drewN | apply Below.drew)⟩; rw [← HR.out]; clear HR hN hBare g0; go_light; simp_all)

set_option maxRecDepth 100000 in
set_option maxHeartbeats 4000000 in
theorem l9Mail_2 (n : SReplica) (p : Addr) (F T V P_ : Int) (H : Bool) (E : SEntry) (L : Int) (lg : List SEntry) (C : Int) (B : Option Addr) (d : Nat) (w : World) (nb bb : Bool) (g0 : ∀ o, (w.alloc o).cell? p = some (.int .i64 n.Id)) (hB : RdS kEntry w B d lg) (ht : (T != n.Id) = false)
    (hN : Hid (∀ W, Below w.heap.size w W → Calls Tryz.prog 115 #[.pointer (some p), .agg #[.int .i64 2, .int .i64 F, .int .i64 T, .int .i64 V, .int .i64 P_, .bool H, .int .i64 E.Client, .int .i64 E.Seq, .int .i64 E.Op.Kind, .int .i64 E.Op.Vol, .int .i64 E.Op.At, .int .i64 E.Op.Value, .int .i64 L, .slice B lg.length d, .int .i64 C]] W fun e w' => e = .returned (.bool nb) ∧ Below W.heap.size W w'))
    (hBare : Hid (∀ W, Below w.heap.size w W → Calls Tryz.prog 117 #[.agg #[.int .i64 2, .int .i64 F, .int .i64 T, .int .i64 V, .int .i64 P_, .bool H, .int .i64 E.Client, .int .i64 E.Seq, .int .i64 E.Op.Kind, .int .i64 E.Op.Vol, .int .i64 E.Op.At, .int .i64 E.Op.Value, .int .i64 L, .slice B lg.length d, .int .i64 C]] W fun e w' => e = .returned (.bool bb) ∧ Below W.heap.size W w')) :
    Calls Tryz.prog 71 #[.pointer (some p), .agg #[.int .i64 2, .int .i64 F, .int .i64 T, .int .i64 V, .int .i64 P_, .bool H, .int .i64 E.Client, .int .i64 E.Seq, .int .i64 E.Op.Kind, .int .i64 E.Op.Vol, .int .i64 E.Op.At, .int .i64 E.Op.Value, .int .i64 L, .slice B lg.length d, .int .i64 C]] w fun e w' => e = .returned (.int .i64 (if !nb then 3 else if (2 == 4 || 2 == 5) && logF lg != 0 then logF lg else if (2 == 4 || 2 == 5) && !wi C 0 lg.length then 3 else if 2 == 1 && H && entryF E != 0 then entryF E else if !bb then 1 else 0)) ∧ Below w.heap.size w w' := by
  have hlen := hB.le63
  have hk : wi 2 1 6 = true := rfl
  generalize hr : (if !nb then 3 else if (2 == 4 || 2 == 5) && logF lg != 0 then logF lg else if (2 == 4 || 2 == 5) && !wi C 0 lg.length then 3 else if 2 == 1 && H && entryF E != 0 then entryF E else if !bb then 1 else 0 : Int) = r
  have HR := Lib.hid hr; clear hr
  go_enter Tryz.func71, Tryz.ntmps71
  go_wp2_with fail
  go_quiet ((first | (go_at_call 84; exact Calls.quiet_of_same ((l1In_c _ _ _ _).mono fun e w' ⟨he, hw⟩ => ⟨he, hw.symm⟩))))
  go_wp2_with (first | (go_at_call 115; refine (hN.out _ (by repeat (first | assumption | exact Below.refl _ _ | (refine below_trans ?_ (by assumption)) | apply below_alloc | apply below_drewN | apply Below.drew))).mono ?_; rintro e w1 ⟨rfl, hb1⟩; have i1 : InMail w ⟨2, F, T, V, P_, H, E, L, lg, C⟩ 51 B d w1 := (by unfold InMail; repeat (first | assumption | exact Below.refl _ _ | (refine below_trans ?_ (by assumption)) | apply below_alloc | apply below_drewN | apply Below.drew)); have k1 := i1.seen; dsimp only at k1) | (go_at_call 86; refine (logFaultS_c _ _ _ _ ?_).mono ?_; exact hB.below (by repeat (first | assumption | exact Below.refl _ _ | (refine below_trans ?_ (by assumption)) | apply below_alloc | apply below_drewN | apply Below.drew)); rintro e w2 ⟨rfl, hb2⟩; have i2 : InMail w ⟨2, F, T, V, P_, H, E, L, lg, C⟩ 51 B d w2 := (by unfold InMail; repeat (first | assumption | exact Below.refl _ _ | (refine below_trans ?_ (by assumption)) | apply below_alloc | apply below_drewN | apply Below.drew)); have k2 := i2.seen; dsimp only at k2) | (go_at_call 84; refine (l1In_c _ _ _ _).mono ?_; rintro e w' ⟨rfl, rfl⟩) | (go_at_call 116; refine (entryFaultS_c E _).mono ?_; rintro e w3 ⟨rfl, hb3⟩; have i3 : InMail w ⟨2, F, T, V, P_, H, E, L, lg, C⟩ 51 B d w3 := (by unfold InMail; repeat (first | assumption | exact Below.refl _ _ | (refine below_trans ?_ (by assumption)) | apply below_alloc | apply below_drewN | apply Below.drew)); have k3 := i3.seen; dsimp only at k3) | (go_at_call 117; refine (hBare.out _ (by repeat (first | assumption | exact Below.refl _ _ | (refine below_trans ?_ (by assumption)) | apply below_alloc | apply below_drewN | apply Below.drew))).mono ?_; rintro e w4 ⟨rfl, hb4⟩))
  all_goals (go_ret; refine ⟨ret_int ?_, by repeat (first | assumption | exact Below.refl _ _ | (refine below_trans ?_ (by assumption)) | apply below_alloc | apply below_drewN | apply Below.drew)⟩; rw [← HR.out]; clear HR hN hBare g0; go_light; simp_all)

set_option maxRecDepth 100000 in
set_option maxHeartbeats 4000000 in
theorem l9Mail_3 (n : SReplica) (p : Addr) (F T V P_ : Int) (H : Bool) (E : SEntry) (L : Int) (lg : List SEntry) (C : Int) (B : Option Addr) (d : Nat) (w : World) (nb bb : Bool) (g0 : ∀ o, (w.alloc o).cell? p = some (.int .i64 n.Id)) (hB : RdS kEntry w B d lg) (ht : (T != n.Id) = false)
    (hN : Hid (∀ W, Below w.heap.size w W → Calls Tryz.prog 115 #[.pointer (some p), .agg #[.int .i64 3, .int .i64 F, .int .i64 T, .int .i64 V, .int .i64 P_, .bool H, .int .i64 E.Client, .int .i64 E.Seq, .int .i64 E.Op.Kind, .int .i64 E.Op.Vol, .int .i64 E.Op.At, .int .i64 E.Op.Value, .int .i64 L, .slice B lg.length d, .int .i64 C]] W fun e w' => e = .returned (.bool nb) ∧ Below W.heap.size W w'))
    (hBare : Hid (∀ W, Below w.heap.size w W → Calls Tryz.prog 117 #[.agg #[.int .i64 3, .int .i64 F, .int .i64 T, .int .i64 V, .int .i64 P_, .bool H, .int .i64 E.Client, .int .i64 E.Seq, .int .i64 E.Op.Kind, .int .i64 E.Op.Vol, .int .i64 E.Op.At, .int .i64 E.Op.Value, .int .i64 L, .slice B lg.length d, .int .i64 C]] W fun e w' => e = .returned (.bool bb) ∧ Below W.heap.size W w')) :
    Calls Tryz.prog 71 #[.pointer (some p), .agg #[.int .i64 3, .int .i64 F, .int .i64 T, .int .i64 V, .int .i64 P_, .bool H, .int .i64 E.Client, .int .i64 E.Seq, .int .i64 E.Op.Kind, .int .i64 E.Op.Vol, .int .i64 E.Op.At, .int .i64 E.Op.Value, .int .i64 L, .slice B lg.length d, .int .i64 C]] w fun e w' => e = .returned (.int .i64 (if !nb then 3 else if (3 == 4 || 3 == 5) && logF lg != 0 then logF lg else if (3 == 4 || 3 == 5) && !wi C 0 lg.length then 3 else if 3 == 1 && H && entryF E != 0 then entryF E else if !bb then 1 else 0)) ∧ Below w.heap.size w w' := by
  have hlen := hB.le63
  have hk : wi 3 1 6 = true := rfl
  generalize hr : (if !nb then 3 else if (3 == 4 || 3 == 5) && logF lg != 0 then logF lg else if (3 == 4 || 3 == 5) && !wi C 0 lg.length then 3 else if 3 == 1 && H && entryF E != 0 then entryF E else if !bb then 1 else 0 : Int) = r
  have HR := Lib.hid hr; clear hr
  go_enter Tryz.func71, Tryz.ntmps71
  go_wp2_with fail
  go_quiet ((first | (go_at_call 84; exact Calls.quiet_of_same ((l1In_c _ _ _ _).mono fun e w' ⟨he, hw⟩ => ⟨he, hw.symm⟩))))
  go_wp2_with (first | (go_at_call 115; refine (hN.out _ (by repeat (first | assumption | exact Below.refl _ _ | (refine below_trans ?_ (by assumption)) | apply below_alloc | apply below_drewN | apply Below.drew))).mono ?_; rintro e w1 ⟨rfl, hb1⟩; have i1 : InMail w ⟨3, F, T, V, P_, H, E, L, lg, C⟩ 51 B d w1 := (by unfold InMail; repeat (first | assumption | exact Below.refl _ _ | (refine below_trans ?_ (by assumption)) | apply below_alloc | apply below_drewN | apply Below.drew)); have k1 := i1.seen; dsimp only at k1) | (go_at_call 86; refine (logFaultS_c _ _ _ _ ?_).mono ?_; exact hB.below (by repeat (first | assumption | exact Below.refl _ _ | (refine below_trans ?_ (by assumption)) | apply below_alloc | apply below_drewN | apply Below.drew)); rintro e w2 ⟨rfl, hb2⟩; have i2 : InMail w ⟨3, F, T, V, P_, H, E, L, lg, C⟩ 51 B d w2 := (by unfold InMail; repeat (first | assumption | exact Below.refl _ _ | (refine below_trans ?_ (by assumption)) | apply below_alloc | apply below_drewN | apply Below.drew)); have k2 := i2.seen; dsimp only at k2) | (go_at_call 84; refine (l1In_c _ _ _ _).mono ?_; rintro e w' ⟨rfl, rfl⟩) | (go_at_call 116; refine (entryFaultS_c E _).mono ?_; rintro e w3 ⟨rfl, hb3⟩; have i3 : InMail w ⟨3, F, T, V, P_, H, E, L, lg, C⟩ 51 B d w3 := (by unfold InMail; repeat (first | assumption | exact Below.refl _ _ | (refine below_trans ?_ (by assumption)) | apply below_alloc | apply below_drewN | apply Below.drew)); have k3 := i3.seen; dsimp only at k3) | (go_at_call 117; refine (hBare.out _ (by repeat (first | assumption | exact Below.refl _ _ | (refine below_trans ?_ (by assumption)) | apply below_alloc | apply below_drewN | apply Below.drew))).mono ?_; rintro e w4 ⟨rfl, hb4⟩))
  all_goals (go_ret; refine ⟨ret_int ?_, by repeat (first | assumption | exact Below.refl _ _ | (refine below_trans ?_ (by assumption)) | apply below_alloc | apply below_drewN | apply Below.drew)⟩; rw [← HR.out]; clear HR hN hBare g0; go_light; simp_all)

set_option maxRecDepth 100000 in
set_option maxHeartbeats 4000000 in
theorem l9Mail_4 (n : SReplica) (p : Addr) (F T V P_ : Int) (H : Bool) (E : SEntry) (L : Int) (lg : List SEntry) (C : Int) (B : Option Addr) (d : Nat) (w : World) (nb bb : Bool) (g0 : ∀ o, (w.alloc o).cell? p = some (.int .i64 n.Id)) (hB : RdS kEntry w B d lg) (ht : (T != n.Id) = false)
    (hN : Hid (∀ W, Below w.heap.size w W → Calls Tryz.prog 115 #[.pointer (some p), .agg #[.int .i64 4, .int .i64 F, .int .i64 T, .int .i64 V, .int .i64 P_, .bool H, .int .i64 E.Client, .int .i64 E.Seq, .int .i64 E.Op.Kind, .int .i64 E.Op.Vol, .int .i64 E.Op.At, .int .i64 E.Op.Value, .int .i64 L, .slice B lg.length d, .int .i64 C]] W fun e w' => e = .returned (.bool nb) ∧ Below W.heap.size W w'))
    (hBare : Hid (∀ W, Below w.heap.size w W → Calls Tryz.prog 117 #[.agg #[.int .i64 4, .int .i64 F, .int .i64 T, .int .i64 V, .int .i64 P_, .bool H, .int .i64 E.Client, .int .i64 E.Seq, .int .i64 E.Op.Kind, .int .i64 E.Op.Vol, .int .i64 E.Op.At, .int .i64 E.Op.Value, .int .i64 L, .slice B lg.length d, .int .i64 C]] W fun e w' => e = .returned (.bool bb) ∧ Below W.heap.size W w')) :
    Calls Tryz.prog 71 #[.pointer (some p), .agg #[.int .i64 4, .int .i64 F, .int .i64 T, .int .i64 V, .int .i64 P_, .bool H, .int .i64 E.Client, .int .i64 E.Seq, .int .i64 E.Op.Kind, .int .i64 E.Op.Vol, .int .i64 E.Op.At, .int .i64 E.Op.Value, .int .i64 L, .slice B lg.length d, .int .i64 C]] w fun e w' => e = .returned (.int .i64 (if !nb then 3 else if (4 == 4 || 4 == 5) && logF lg != 0 then logF lg else if (4 == 4 || 4 == 5) && !wi C 0 lg.length then 3 else if 4 == 1 && H && entryF E != 0 then entryF E else if !bb then 1 else 0)) ∧ Below w.heap.size w w' := by
  have hlen := hB.le63
  have hk : wi 4 1 6 = true := rfl
  generalize hr : (if !nb then 3 else if (4 == 4 || 4 == 5) && logF lg != 0 then logF lg else if (4 == 4 || 4 == 5) && !wi C 0 lg.length then 3 else if 4 == 1 && H && entryF E != 0 then entryF E else if !bb then 1 else 0 : Int) = r
  have HR := Lib.hid hr; clear hr
  go_enter Tryz.func71, Tryz.ntmps71
  go_wp2_with fail
  go_quiet ((first | (go_at_call 84; exact Calls.quiet_of_same ((l1In_c _ _ _ _).mono fun e w' ⟨he, hw⟩ => ⟨he, hw.symm⟩))))
  go_wp2_with (first | (go_at_call 115; refine (hN.out _ (by repeat (first | assumption | exact Below.refl _ _ | (refine below_trans ?_ (by assumption)) | apply below_alloc | apply below_drewN | apply Below.drew))).mono ?_; rintro e w1 ⟨rfl, hb1⟩; have i1 : InMail w ⟨4, F, T, V, P_, H, E, L, lg, C⟩ 51 B d w1 := (by unfold InMail; repeat (first | assumption | exact Below.refl _ _ | (refine below_trans ?_ (by assumption)) | apply below_alloc | apply below_drewN | apply Below.drew)); have k1 := i1.seen; dsimp only at k1) | (go_at_call 86; refine (logFaultS_c _ _ _ _ ?_).mono ?_; exact hB.below (by repeat (first | assumption | exact Below.refl _ _ | (refine below_trans ?_ (by assumption)) | apply below_alloc | apply below_drewN | apply Below.drew)); rintro e w2 ⟨rfl, hb2⟩; have i2 : InMail w ⟨4, F, T, V, P_, H, E, L, lg, C⟩ 51 B d w2 := (by unfold InMail; repeat (first | assumption | exact Below.refl _ _ | (refine below_trans ?_ (by assumption)) | apply below_alloc | apply below_drewN | apply Below.drew)); have k2 := i2.seen; dsimp only at k2) | (go_at_call 84; refine (l1In_c _ _ _ _).mono ?_; rintro e w' ⟨rfl, rfl⟩) | (go_at_call 116; refine (entryFaultS_c E _).mono ?_; rintro e w3 ⟨rfl, hb3⟩; have i3 : InMail w ⟨4, F, T, V, P_, H, E, L, lg, C⟩ 51 B d w3 := (by unfold InMail; repeat (first | assumption | exact Below.refl _ _ | (refine below_trans ?_ (by assumption)) | apply below_alloc | apply below_drewN | apply Below.drew)); have k3 := i3.seen; dsimp only at k3) | (go_at_call 117; refine (hBare.out _ (by repeat (first | assumption | exact Below.refl _ _ | (refine below_trans ?_ (by assumption)) | apply below_alloc | apply below_drewN | apply Below.drew))).mono ?_; rintro e w4 ⟨rfl, hb4⟩))
  all_goals (go_ret; refine ⟨ret_int ?_, by repeat (first | assumption | exact Below.refl _ _ | (refine below_trans ?_ (by assumption)) | apply below_alloc | apply below_drewN | apply Below.drew)⟩; rw [← HR.out]; clear HR hN hBare g0; go_light; simp_all)

set_option maxRecDepth 100000 in
set_option maxHeartbeats 4000000 in
theorem l9Mail_5 (n : SReplica) (p : Addr) (F T V P_ : Int) (H : Bool) (E : SEntry) (L : Int) (lg : List SEntry) (C : Int) (B : Option Addr) (d : Nat) (w : World) (nb bb : Bool) (g0 : ∀ o, (w.alloc o).cell? p = some (.int .i64 n.Id)) (hB : RdS kEntry w B d lg) (ht : (T != n.Id) = false)
    (hN : Hid (∀ W, Below w.heap.size w W → Calls Tryz.prog 115 #[.pointer (some p), .agg #[.int .i64 5, .int .i64 F, .int .i64 T, .int .i64 V, .int .i64 P_, .bool H, .int .i64 E.Client, .int .i64 E.Seq, .int .i64 E.Op.Kind, .int .i64 E.Op.Vol, .int .i64 E.Op.At, .int .i64 E.Op.Value, .int .i64 L, .slice B lg.length d, .int .i64 C]] W fun e w' => e = .returned (.bool nb) ∧ Below W.heap.size W w'))
    (hBare : Hid (∀ W, Below w.heap.size w W → Calls Tryz.prog 117 #[.agg #[.int .i64 5, .int .i64 F, .int .i64 T, .int .i64 V, .int .i64 P_, .bool H, .int .i64 E.Client, .int .i64 E.Seq, .int .i64 E.Op.Kind, .int .i64 E.Op.Vol, .int .i64 E.Op.At, .int .i64 E.Op.Value, .int .i64 L, .slice B lg.length d, .int .i64 C]] W fun e w' => e = .returned (.bool bb) ∧ Below W.heap.size W w')) :
    Calls Tryz.prog 71 #[.pointer (some p), .agg #[.int .i64 5, .int .i64 F, .int .i64 T, .int .i64 V, .int .i64 P_, .bool H, .int .i64 E.Client, .int .i64 E.Seq, .int .i64 E.Op.Kind, .int .i64 E.Op.Vol, .int .i64 E.Op.At, .int .i64 E.Op.Value, .int .i64 L, .slice B lg.length d, .int .i64 C]] w fun e w' => e = .returned (.int .i64 (if !nb then 3 else if (5 == 4 || 5 == 5) && logF lg != 0 then logF lg else if (5 == 4 || 5 == 5) && !wi C 0 lg.length then 3 else if 5 == 1 && H && entryF E != 0 then entryF E else if !bb then 1 else 0)) ∧ Below w.heap.size w w' := by
  have hlen := hB.le63
  have hk : wi 5 1 6 = true := rfl
  generalize hr : (if !nb then 3 else if (5 == 4 || 5 == 5) && logF lg != 0 then logF lg else if (5 == 4 || 5 == 5) && !wi C 0 lg.length then 3 else if 5 == 1 && H && entryF E != 0 then entryF E else if !bb then 1 else 0 : Int) = r
  have HR := Lib.hid hr; clear hr
  go_enter Tryz.func71, Tryz.ntmps71
  go_wp2_with fail
  go_quiet ((first | (go_at_call 84; exact Calls.quiet_of_same ((l1In_c _ _ _ _).mono fun e w' ⟨he, hw⟩ => ⟨he, hw.symm⟩))))
  go_wp2_with (first | (go_at_call 115; refine (hN.out _ (by repeat (first | assumption | exact Below.refl _ _ | (refine below_trans ?_ (by assumption)) | apply below_alloc | apply below_drewN | apply Below.drew))).mono ?_; rintro e w1 ⟨rfl, hb1⟩; have i1 : InMail w ⟨5, F, T, V, P_, H, E, L, lg, C⟩ 51 B d w1 := (by unfold InMail; repeat (first | assumption | exact Below.refl _ _ | (refine below_trans ?_ (by assumption)) | apply below_alloc | apply below_drewN | apply Below.drew)); have k1 := i1.seen; dsimp only at k1) | (go_at_call 86; refine (logFaultS_c _ _ _ _ ?_).mono ?_; exact hB.below (by repeat (first | assumption | exact Below.refl _ _ | (refine below_trans ?_ (by assumption)) | apply below_alloc | apply below_drewN | apply Below.drew)); rintro e w2 ⟨rfl, hb2⟩; have i2 : InMail w ⟨5, F, T, V, P_, H, E, L, lg, C⟩ 51 B d w2 := (by unfold InMail; repeat (first | assumption | exact Below.refl _ _ | (refine below_trans ?_ (by assumption)) | apply below_alloc | apply below_drewN | apply Below.drew)); have k2 := i2.seen; dsimp only at k2) | (go_at_call 84; refine (l1In_c _ _ _ _).mono ?_; rintro e w' ⟨rfl, rfl⟩) | (go_at_call 116; refine (entryFaultS_c E _).mono ?_; rintro e w3 ⟨rfl, hb3⟩; have i3 : InMail w ⟨5, F, T, V, P_, H, E, L, lg, C⟩ 51 B d w3 := (by unfold InMail; repeat (first | assumption | exact Below.refl _ _ | (refine below_trans ?_ (by assumption)) | apply below_alloc | apply below_drewN | apply Below.drew)); have k3 := i3.seen; dsimp only at k3) | (go_at_call 117; refine (hBare.out _ (by repeat (first | assumption | exact Below.refl _ _ | (refine below_trans ?_ (by assumption)) | apply below_alloc | apply below_drewN | apply Below.drew))).mono ?_; rintro e w4 ⟨rfl, hb4⟩))
  all_goals (go_ret; refine ⟨ret_int ?_, by repeat (first | assumption | exact Below.refl _ _ | (refine below_trans ?_ (by assumption)) | apply below_alloc | apply below_drewN | apply Below.drew)⟩; rw [← HR.out]; clear HR hN hBare g0; go_light; simp_all)

set_option maxRecDepth 100000 in
set_option maxHeartbeats 4000000 in
theorem l9Mail_6 (n : SReplica) (p : Addr) (F T V P_ : Int) (H : Bool) (E : SEntry) (L : Int) (lg : List SEntry) (C : Int) (B : Option Addr) (d : Nat) (w : World) (nb bb : Bool) (g0 : ∀ o, (w.alloc o).cell? p = some (.int .i64 n.Id)) (hB : RdS kEntry w B d lg) (ht : (T != n.Id) = false)
    (hN : Hid (∀ W, Below w.heap.size w W → Calls Tryz.prog 115 #[.pointer (some p), .agg #[.int .i64 6, .int .i64 F, .int .i64 T, .int .i64 V, .int .i64 P_, .bool H, .int .i64 E.Client, .int .i64 E.Seq, .int .i64 E.Op.Kind, .int .i64 E.Op.Vol, .int .i64 E.Op.At, .int .i64 E.Op.Value, .int .i64 L, .slice B lg.length d, .int .i64 C]] W fun e w' => e = .returned (.bool nb) ∧ Below W.heap.size W w'))
    (hBare : Hid (∀ W, Below w.heap.size w W → Calls Tryz.prog 117 #[.agg #[.int .i64 6, .int .i64 F, .int .i64 T, .int .i64 V, .int .i64 P_, .bool H, .int .i64 E.Client, .int .i64 E.Seq, .int .i64 E.Op.Kind, .int .i64 E.Op.Vol, .int .i64 E.Op.At, .int .i64 E.Op.Value, .int .i64 L, .slice B lg.length d, .int .i64 C]] W fun e w' => e = .returned (.bool bb) ∧ Below W.heap.size W w')) :
    Calls Tryz.prog 71 #[.pointer (some p), .agg #[.int .i64 6, .int .i64 F, .int .i64 T, .int .i64 V, .int .i64 P_, .bool H, .int .i64 E.Client, .int .i64 E.Seq, .int .i64 E.Op.Kind, .int .i64 E.Op.Vol, .int .i64 E.Op.At, .int .i64 E.Op.Value, .int .i64 L, .slice B lg.length d, .int .i64 C]] w fun e w' => e = .returned (.int .i64 (if !nb then 3 else if (6 == 4 || 6 == 5) && logF lg != 0 then logF lg else if (6 == 4 || 6 == 5) && !wi C 0 lg.length then 3 else if 6 == 1 && H && entryF E != 0 then entryF E else if !bb then 1 else 0)) ∧ Below w.heap.size w w' := by
  have hlen := hB.le63
  have hk : wi 6 1 6 = true := rfl
  generalize hr : (if !nb then 3 else if (6 == 4 || 6 == 5) && logF lg != 0 then logF lg else if (6 == 4 || 6 == 5) && !wi C 0 lg.length then 3 else if 6 == 1 && H && entryF E != 0 then entryF E else if !bb then 1 else 0 : Int) = r
  have HR := Lib.hid hr; clear hr
  go_enter Tryz.func71, Tryz.ntmps71
  go_wp2_with fail
  go_quiet ((first | (go_at_call 84; exact Calls.quiet_of_same ((l1In_c _ _ _ _).mono fun e w' ⟨he, hw⟩ => ⟨he, hw.symm⟩))))
  go_wp2_with (first | (go_at_call 115; refine (hN.out _ (by repeat (first | assumption | exact Below.refl _ _ | (refine below_trans ?_ (by assumption)) | apply below_alloc | apply below_drewN | apply Below.drew))).mono ?_; rintro e w1 ⟨rfl, hb1⟩; have i1 : InMail w ⟨6, F, T, V, P_, H, E, L, lg, C⟩ 51 B d w1 := (by unfold InMail; repeat (first | assumption | exact Below.refl _ _ | (refine below_trans ?_ (by assumption)) | apply below_alloc | apply below_drewN | apply Below.drew)); have k1 := i1.seen; dsimp only at k1) | (go_at_call 86; refine (logFaultS_c _ _ _ _ ?_).mono ?_; exact hB.below (by repeat (first | assumption | exact Below.refl _ _ | (refine below_trans ?_ (by assumption)) | apply below_alloc | apply below_drewN | apply Below.drew)); rintro e w2 ⟨rfl, hb2⟩; have i2 : InMail w ⟨6, F, T, V, P_, H, E, L, lg, C⟩ 51 B d w2 := (by unfold InMail; repeat (first | assumption | exact Below.refl _ _ | (refine below_trans ?_ (by assumption)) | apply below_alloc | apply below_drewN | apply Below.drew)); have k2 := i2.seen; dsimp only at k2) | (go_at_call 84; refine (l1In_c _ _ _ _).mono ?_; rintro e w' ⟨rfl, rfl⟩) | (go_at_call 116; refine (entryFaultS_c E _).mono ?_; rintro e w3 ⟨rfl, hb3⟩; have i3 : InMail w ⟨6, F, T, V, P_, H, E, L, lg, C⟩ 51 B d w3 := (by unfold InMail; repeat (first | assumption | exact Below.refl _ _ | (refine below_trans ?_ (by assumption)) | apply below_alloc | apply below_drewN | apply Below.drew)); have k3 := i3.seen; dsimp only at k3) | (go_at_call 117; refine (hBare.out _ (by repeat (first | assumption | exact Below.refl _ _ | (refine below_trans ?_ (by assumption)) | apply below_alloc | apply below_drewN | apply Below.drew))).mono ?_; rintro e w4 ⟨rfl, hb4⟩))
  all_goals (go_ret; refine ⟨ret_int ?_, by repeat (first | assumption | exact Below.refl _ _ | (refine below_trans ?_ (by assumption)) | apply below_alloc | apply below_drewN | apply Below.drew)⟩; rw [← HR.out]; clear HR hN hBare g0; go_light; simp_all)
set_option maxRecDepth 100000 in
set_option maxHeartbeats 4000000 in
theorem l9Mail_c (n : SReplica) (p : Addr) (m : SMail) (B : Option Addr) (d : Nat) (w : World) (h : At kReplica w p n) (hB : RdS kEntry w B d m.Log) (hs : wi n.Size 1 5 = true) :
    Calls Tryz.prog 71 #[.pointer (some p), .agg #[.int .i64 m.Kind, .int .i64 m.From, .int .i64 m.To, .int .i64 m.View, .int .i64 m.At, .bool m.Has, .int .i64 m.Entry.Client, .int .i64 m.Entry.Seq, .int .i64 m.Entry.Op.Kind, .int .i64 m.Entry.Op.Vol, .int .i64 m.Entry.Op.At, .int .i64 m.Entry.Op.Value, .int .i64 m.Last, .slice B m.Log.length d, .int .i64 m.Commit]] w fun e w' => e = .returned (.int .i64 (mailT n m)) ∧ Below w.heap.size w w' := by
  have hat := h
  obtain ⟨cs, hl, hr⟩ := h
  obtain ⟨A5, c5, A7, c7, A8, c8, A9, c9, rfl, h5, h7, h8, h9⟩ := kReplica_open hr
  clear hr h5 h7 h8 h9
  obtain ⟨g0, g1, g2, g3, g4, g5, g6, g7, g8, g9⟩ := liesReplica hl
  clear hl g1 g2 g3 g4 g5 g6 g7 g8 g9
  replace g0 := fun o => cell_alloc g0 o
  have hlen := hB.le63
  cases hk : wi m.Kind 1 6
  · have e : mailT n m = 1 := by simp [mailT, hk]
    rw [e]; clear e
    go_enter Tryz.func71, Tryz.ntmps71
    go_wp2_with fail
    go_quiet ((first | (go_at_call 84; exact Calls.quiet_of_same ((l1In_c _ _ _ _).mono fun e w' ⟨he, hw⟩ => ⟨he, hw.symm⟩))))
    go_wp2
    go_ret; exact ⟨rfl, by repeat (first | assumption | exact Below.refl _ _ | (refine below_trans ?_ (by assumption)) | apply below_alloc | apply below_drewN | apply Below.drew)⟩
  · cases ht : (m.To != n.Id)
    · have e : mailT n m = if !numB n m then 3 else if (m.Kind == 4 || m.Kind == 5) && logF m.Log != 0 then logF m.Log else if (m.Kind == 4 || m.Kind == 5) && !wi m.Commit 0 m.Log.length then 3 else if m.Kind == 1 && m.Has && entryF m.Entry != 0 then entryF m.Entry else if !bareB m then 1 else 0 := by
        unfold mailT; rw [hk, ht]; rfl
      rw [e]; clear e
      have hk0 := hk
      have hN := Lib.hid (fun (W : World) (hW : Below w.heap.size w W) => l9Numbers_c n p m B d W (hat.below hW) hs hk0)
      have hBare := Lib.hid (fun (W : World) (hW : Below w.heap.size w W) => l9Bare_c m B d W (hB.below hW) hk0)
      generalize hnb : numB n m = nb at hN ⊢
      generalize hbb : bareB m = bb at hBare ⊢
      clear hnb hbb hat
      obtain ⟨K, F, T, V, P_, H, E, L, lg, C⟩ := m
      dsimp only at hk hk0 hB hlen ht hN hBare ⊢
      rcases kind_cases hk with rfl | rfl | rfl | rfl | rfl | rfl
      · exact l9Mail_1 n p F T V P_ H E L lg C B d w nb bb g0 hB ht hN hBare
      · exact l9Mail_2 n p F T V P_ H E L lg C B d w nb bb g0 hB ht hN hBare
      · exact l9Mail_3 n p F T V P_ H E L lg C B d w nb bb g0 hB ht hN hBare
      · exact l9Mail_4 n p F T V P_ H E L lg C B d w nb bb g0 hB ht hN hBare
      · exact l9Mail_5 n p F T V P_ H E L lg C B d w nb bb g0 hB ht hN hBare
      · exact l9Mail_6 n p F T V P_ H E L lg C B d w nb bb g0 hB ht hN hBare
    · have e : mailT n m = 1 := by simp [mailT, ht]
      rw [e]; clear e
      go_enter Tryz.func71, Tryz.ntmps71
      go_wp2_with fail
      go_quiet ((first | (go_at_call 84; exact Calls.quiet_of_same ((l1In_c _ _ _ _).mono fun e w' ⟨he, hw⟩ => ⟨he, hw.symm⟩))))
      go_wp2
      go_ret; exact ⟨rfl, by repeat (first | assumption | exact Below.refl _ _ | (refine below_trans ?_ (by assumption)) | apply below_alloc | apply below_drewN | apply Below.drew)⟩
end Go.Proofs.YtdjfehjddfbbjaaGreat

/- Faults of a cluster: what the reference's l11Fault comes to (written by gC1.py, own work). -/
set_option linter.unusedVariables false
set_option linter.unusedSimpArgs false
namespace Go.Proofs.YtdjfehjddfbbjaaGreat
open Go Go.RowKit Mk
theorem l11Place_c (c : SCluster) (p : Addr) (k : Int) (w : World) (h : At kCluster w p c) (hl : c.Nodes.length ≤ 5) (h1 : 1 ≤ c.Nodes.length) :
    Calls Tryz.prog 105 #[.pointer (some p), .int .i64 k] w fun e w' => e = .returned (.bool (wi k 0 (c.Nodes.length - 1))) ∧ w = w' := by
  obtain ⟨A0, c0, A1, c1, A2, c2, f0, f1, f2, hh⟩ := atCluster h
  clear f1 f2 hh h
  go_enter Tryz.func105, Tryz.ntmps105
  go_wp2_with (first | (go_at_call 84; refine (l1In_c _ _ _ _).mono ?_; rintro e w' ⟨rfl, rfl⟩))
  go_ret; exact ⟨rfl, rfl⟩
/-- No node of the first ones has a fault, and each has as many as there are. -/
def fineTo (c : SCluster) (k : Nat) : Prop := ∀ j, j < k → ∀ n, c.Nodes[j]? = some n → wi n.Size 1 5 = true
theorem nodeF_size {s : Int} {i : Nat} {n : SReplica} (h : (nodeF s i n != 0) = false) : wi n.Size 1 5 = true ∧ (repF n != 0) = false := by
  have : (repF n != 0) = false := by
    unfold nodeF at h
    cases hq : (repF n != 0)
    · rfl
    · rw [hq, if_pos rfl] at h; rw [hq] at h; cases h
  exact ⟨repF_size this, this⟩
theorem firstI_zero {α : Type} (f : Nat → α → Int) : ∀ (xs : List α) (i : Nat), firstI f i xs = 0 → ∀ j (x : α), xs[j]? = some x → f (i + j) x = 0
  | [], i, _, j, x, hx => by simp at hx
  | y :: ys, i, h, j, x, hx => by
    unfold firstI at h
    cases hq : (f i y != 0)
    · rw [hq, if_neg (by simp)] at h
      cases j with
      | zero => simp at hx; subst hx; simpa using hq
      | succ j =>
        have := firstI_zero f ys (i + 1) h j x (by simpa using hx)
        rwa [show i + 1 + j = i + (j + 1) from by omega] at this
    · rw [hq, if_pos rfl] at h; rw [h] at hq; cases hq
set_option maxRecDepth 100000 in
set_option maxHeartbeats 4000000 in
theorem l11Fault_c (c : SCluster) (p : Addr) (w : World) (h : At kCluster w p c) :
    Calls Tryz.prog 62 #[.pointer (some p)] w fun e w' => e = .returned (.int .i64 (clusF c)) ∧ Below w.heap.size w w' := by
  have hat := h
  obtain ⟨cs, hl, hr⟩ := h
  obtain ⟨A0, c0, A1, c1, A2, c2, rfl, h0, h1, h2⟩ := kCluster_open hr
  clear hr
  have g0 := liesCluster hl
  have hl0 := h0.le63
  have hl1 := h1.le63
  cases hs : wi c.Nodes.length 1 5 with
  | false =>
    have hr : clusF c = 2 := by simp [clusF, hs]
    have HR := Lib.hid hr; clear hr
    by_cases hz : c.Nodes.length = 0
    · have h3 : (c.Nodes.length : Int) < 1 := by omega
      clear hz hs
      go_enter Tryz.func62, Tryz.ntmps62
      go_wp2
      go_ret; exact ⟨ret_int HR.out.symm, by repeat (first | assumption | exact Below.refl _ _ | (refine below_trans ?_ (by assumption)) | apply below_alloc | apply below_drewN | apply Below.drew)⟩
    · have h3 : ¬ (c.Nodes.length : Int) < 1 := by omega
      have h4 : (5 : Int) < (c.Nodes.length : Int) := by
        have : ¬ ((c.Nodes.length : Int) ≤ 5) := fun hx => by rw [wi_t (by omega) hx] at hs; cases hs
        omega
      have h5 : 5 < c.Nodes.length := by omega
      clear hz hs
      go_enter Tryz.func62, Tryz.ntmps62
      go_wp2
      go_ret; exact ⟨ret_int HR.out.symm, by repeat (first | assumption | exact Below.refl _ _ | (refine below_trans ?_ (by assumption)) | apply below_alloc | apply below_drewN | apply Below.drew)⟩
  | true =>
    obtain ⟨b1, b2⟩ := wi_b hs
    have b3 : 1 ≤ c.Nodes.length := by omega
    have b4 : c.Nodes.length ≤ 5 := by omega
    by_cases hm : 120 < c.Mails.length
    · have hr : clusF c = 2 := by simp [clusF, hm]
      have HR := Lib.hid hr; clear hr
      go_enter Tryz.func62, Tryz.ntmps62
      go_wp2
      go_ret; exact ⟨ret_int HR.out.symm, by repeat (first | assumption | exact Below.refl _ _ | (refine below_trans ?_ (by assumption)) | apply below_alloc | apply below_drewN | apply Below.drew)⟩
    · have hr : clusF c = if firstI (nodeF c.Nodes.length) 0 c.Nodes != 0 then firstI (nodeF c.Nodes.length) 0 c.Nodes else if first (mailInF c) c.Mails != 0 then first (mailInF c) c.Mails else logF c.Sealed := by simp [clusF, hm, hs]
      have HR := Lib.hid hr; clear hr
      go_enter Tryz.func62, Tryz.ntmps62
      go_wp2_with fail
      any_goals (exfalso; omega)
      clear hm g0
      go_loopw [3] (fun i W => ∃ k : Nat, k ≤ c.Nodes.length ∧ i = .int .i64 k ∧ firstI (nodeF c.Nodes.length) k (c.Nodes.drop k) = firstI (nodeF c.Nodes.length) 0 c.Nodes ∧ Below w.heap.size w W) (fun i _ => c.Nodes.length - (intOf i).toNat)
      case atStart => exact ⟨0, Nat.zero_le _, rfl, rfl, by repeat (first | assumption | exact Below.refl _ _ | (refine below_trans ?_ (by assumption)) | apply below_alloc | apply below_drewN | apply Below.drew)⟩
      case round =>
        obtain ⟨k, hk, rfl, hf, hb⟩ := hrel
        have gk := liesCluster (hl.below hb)
        by_cases hlt : k < c.Nodes.length
        · have hsd := firstI_drop (nodeF c.Nodes.length) c.Nodes k hlt
          have HS := Lib.hid (hsd.symm.trans hf); clear hsd hf
          have hlt' : (k : Int) < (c.Nodes.length : Int) := by omega
          obtain ⟨a, ea, hn⟩ := (h0.below hb).at_ hlt
          subst ea
          simp only [show kReplica.sz = 10 from rfl] at hn
          generalize hy : c.Nodes[k] = n at hn HS
          have HY := Lib.hid hy; clear hy
          go_wp2_with (first | (go_at_call 36; refine (l9Fault_c n _ _ hn).mono ?_; rintro e w1 ⟨rfl, hb1⟩; have g1 := liesCluster (hl.below (below_trans hb hb1)); have hn1 := hn.below hb1))
          · have q := (show (repF n != 0) = true by assumption)
            go_ret; refine ⟨ret_int ?_, by repeat (first | assumption | exact Below.refl _ _ | (refine below_trans ?_ (by assumption)) | apply below_alloc | apply below_drewN | apply Below.drew)⟩
            have hh := HS.out
            have e : nodeF c.Nodes.length k n = repF n := by unfold nodeF; rw [if_pos q]
            rw [e, if_pos q] at hh
            rw [HR.out, ← hh, if_pos q]
          · have q := (show (repF n != 0) = false by assumption)
            obtain ⟨B5, d5, B7, d7, B8, d8, B9, d9, f0, f1, f2, f3, f4, f5, f6, f7, f8, f9, hh⟩ := atReplica hn1
            clear f2 f3 f4 f5 f6 f7 f8 f9 hh hn gk
            cases q1 : (n.Id != (k : Int)) with
            | true =>
              go_quiet (fail)
              go_wp2_with fail
              go_ret; refine ⟨ret_int ?_, by repeat (first | assumption | exact Below.refl _ _ | (refine below_trans ?_ (by assumption)) | apply below_alloc | apply below_drewN | apply Below.drew)⟩
              have hh := HS.out
              have e : nodeF c.Nodes.length k n = 1 := by unfold nodeF; rw [if_neg (by rw [q]; simp), if_pos (by rw [q1]; simp)]
              rw [e] at hh
              rw [HR.out, ← hh]; rfl
            | false =>
              cases q2 : (n.Size != (c.Nodes.length : Int)) with
              | true =>
                go_quiet (fail)
                go_wp2_with fail
                go_ret; refine ⟨ret_int ?_, by repeat (first | assumption | exact Below.refl _ _ | (refine below_trans ?_ (by assumption)) | apply below_alloc | apply below_drewN | apply Below.drew)⟩
                have hh := HS.out
                have e : nodeF c.Nodes.length k n = 1 := by unfold nodeF; rw [if_neg (by rw [q]; simp), if_pos (by rw [q1, q2]; simp)]
                rw [e] at hh
                rw [HR.out, ← hh]; rfl
              | false =>
                go_quiet (fail)
                go_wp2_with fail
                refine ⟨⟨k + 1, hlt, by go_num, ?_, by repeat (first | assumption | exact Below.refl _ _ | (refine below_trans ?_ (by assumption)) | apply below_alloc | apply below_drewN | apply Below.drew)⟩, by simp [intOf]; omega⟩
                have hh := HS.out
                have e : nodeF c.Nodes.length k n = 0 := by unfold nodeF; rw [if_neg (by rw [q]; simp), if_neg (by rw [q1, q2]; simp)]
                rw [e] at hh
                exact hh
        · have hz : firstI (nodeF c.Nodes.length) 0 c.Nodes = 0 := by rw [← hf, List.drop_of_length_le (by omega)]; rfl
          have hr2 : clusF c = if first (mailInF c) c.Mails != 0 then first (mailInF c) c.Mails else logF c.Sealed := by rw [HR.out, hz]; rfl
          have HR2 := Lib.hid hr2
          have HZ := Lib.hid hz
          clear hr2 hz HR hf
          go_wp2_with fail
          clear gk
          go_loopw [5] (fun i W => ∃ k : Nat, k ≤ c.Mails.length ∧ i = .int .i64 k ∧ first (mailInF c) (c.Mails.drop k) = first (mailInF c) c.Mails ∧ Below w.heap.size w W) (fun i _ => c.Mails.length - (intOf i).toNat)
          case atStart => exact ⟨0, Nat.zero_le _, rfl, rfl, hb⟩
          case round =>
            clear hb hlt hk
            obtain ⟨k, hk, rfl, hf, hb⟩ := hrel
            have gk := liesCluster (hl.below hb)
            by_cases hlt : k < c.Mails.length
            · have hsd := first_drop (mailInF c) c.Mails k hlt
              have HS := Lib.hid (hsd.symm.trans hf); clear hsd hf
              have hlt' : (k : Int) < (c.Mails.length : Int) := by omega
              obtain ⟨a, ea, hn⟩ := (h1.below hb).at_ hlt
              subst ea
              simp only [show kMail.sz = 15 from rfl] at hn
              generalize hy : c.Mails[k] = m at hn HS
              have HY := Lib.hid hy; clear hy
              obtain ⟨MB, md, m0, m1, m2, m3, m4, m5, m6, m7, m8, m9, m10, m11, m12, m13, m14, hmB⟩ := atMail hn
              clear hn
              cases ht : wi m.To 0 (c.Nodes.length - 1) with
              | false =>
                go_wp2_with (first | (go_at_call 105; refine (l11Place_c c _ _ _ (hat.below hb) b4 b3).mono ?_; rintro e w' ⟨rfl, rfl⟩))
                go_ret; refine ⟨ret_int ?_, by repeat (first | assumption | exact Below.refl _ _ | (refine below_trans ?_ (by assumption)) | apply below_alloc | apply below_drewN | apply Below.drew)⟩
                have hh := HS.out
                have e : mailInF c m = 3 := by simp [mailInF, ht]
                rw [HR2.out, ← hh, e]; rfl
              | true =>
                obtain ⟨t1, t2⟩ := wi_b ht
                have t3 : m.To.toNat < c.Nodes.length := by omega
                have t4 : m.To < (c.Nodes.length : Int) := by omega
                obtain ⟨a', ea, hn'⟩ := (h0.below hb).at_ t3
                subst ea
                simp only [show kReplica.sz = 10 from rfl] at hn'
                have hfine := nodeF_size (s := c.Nodes.length) (i := 0 + m.To.toNat) (n := c.Nodes[m.To.toNat]) (by rw [firstI_zero _ _ _ HZ.out _ _ (List.getElem?_eq_getElem t3)]; rfl)
                have e : mailInF c m = mailT c.Nodes[m.To.toNat] m := by
                  unfold mailInF
                  rw [if_neg (by rw [ht]; simp), List.getD_eq_getElem?_getD, List.getElem?_eq_getElem t3]
                  show mailF c.Nodes[m.To.toNat] m = _
                  unfold mailF
                  rw [if_neg (by rw [hfine.2]; simp)]
                have EE := Lib.hid e; clear e
                generalize hn2 : c.Nodes[m.To.toNat] = n at hn' hfine EE
                go_wp2_with (first | (go_at_call 105; refine (l11Place_c c _ _ _ (hat.below hb) b4 b3).mono ?_; rintro e w' ⟨rfl, rfl⟩))
                go_still_tail 20, (by kernel_rfl)
                change wpList _ _ _ _ _ wr.drew
                go_wp2_with (go_at_call 71; refine (l9Mail_c n _ m _ _ _ (hn'.below ?_) (hmB.below ?_) hfine.1).mono ?_; exact (Below.refl _ _).drew; exact (Below.refl _ _).drew; rintro e w5 ⟨rfl, hb5⟩)
                · have q := (show (mailT n m != 0) = true by assumption)
                  have hh := HS.out
                  go_ret; refine ⟨ret_int ?_, by repeat (first | assumption | exact Below.refl _ _ | (refine below_trans ?_ (by assumption)) | apply below_alloc | apply below_drewN | apply Below.drew)⟩
                  rw [EE.out, if_pos q] at hh
                  rw [HR2.out, ← hh, if_pos q]
                · have q := (show (mailT n m != 0) = false by assumption)
                  have hh := HS.out
                  refine ⟨⟨k + 1, hlt, by go_num, ?_, by repeat (first | assumption | exact Below.refl _ _ | (refine below_trans ?_ (by assumption)) | apply below_alloc | apply below_drewN | apply Below.drew)⟩, by simp [intOf]; omega⟩
                  rw [EE.out, if_neg (by rw [q]; simp)] at hh
                  exact hh
            · have HF := Lib.hid hf; clear hf
              go_wp2_with (go_at_call 86; refine (logFaultS_c c.Sealed _ _ _ ?_).mono ?_; exact h2.below hb; rintro e w5 ⟨rfl, hb5⟩)
              go_ret
              exact ⟨ret_int (by rw [HR2.out, ← HF.out, List.drop_of_length_le (by omega)]; rfl), by repeat (first | assumption | exact Below.refl _ _ | (refine below_trans ?_ (by assumption)) | apply below_alloc | apply below_drewN | apply Below.drew)⟩
end Go.Proofs.YtdjfehjddfbbjaaGreat
