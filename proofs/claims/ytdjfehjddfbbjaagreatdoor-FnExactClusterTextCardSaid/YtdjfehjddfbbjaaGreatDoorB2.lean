/- Faults of a node: what the reference's l9Fault comes to. -/
import Derived.Test.YtdjfehjddfbbjaaGreatDoorB1
set_option linter.unusedVariables false
set_option linter.unusedSimpArgs false
namespace Go.Proofs.YtdjfehjddfbbjaaGreatDoor
open Go Go.RowKit Mk
theorem sizesB_eq (n : SReplica) : sizesB n = (n.Normal && n.Last != n.View || !((n.Oks.length : Int) == oksN n && (n.Asks.length : Int) == asksN n && (n.Doers.length : Int) == asksN n)) := by
  unfold sizesB
  cases n.Normal && n.Last != n.View <;> simp [bne, Bool.or_assoc]
set_option maxRecDepth 100000 in
set_option maxHeartbeats 2000000 in
theorem l9Fault_c (n : SReplica) (p : Addr) (w : World) (h : At kReplica w p n) :
    Calls Tryz.prog 25 #[.pointer (some p)] w fun e w' => e = .returned (.int .i64 (repF n)) ∧ Below w.heap.size w w' := by
  have hat := h
  obtain ⟨cs, hl, hr⟩ := h
  obtain ⟨A5, c5, A7, c7, A8, c8, A9, c9, rfl, h5, h7, h8, h9⟩ := kReplica_open hr
  clear hr
  have hlen5 := h5.le63
  have hlen7 := h7.le63
  have hlen9 := h9.le63
  have g0 := liesReplica hl
  cases h1 : wi n.Size 1 5 with
  | false =>
    have hr : repF n = 3 := by simp [repF, h1]
    rw [hr]; clear hr
    go_enter Tryz.func25, Tryz.ntmps25
    go_wp2_with fail
    go_quiet ((first | (go_at_call 46; exact Calls.quiet_of_same ((l1In_c _ _ _ _).mono fun e w' ⟨he, hw⟩ => ⟨he, hw.symm⟩)) | (go_at_call 47; exact Calls.quiet_of_same ((l9View_c _ _).mono fun e w' ⟨he, hw⟩ => ⟨he, hw.symm⟩))))
    go_wp2
    go_ret; exact ⟨rfl, by repeat (first | assumption | exact Below.refl _ _ | (refine below_trans ?_ (by assumption)) | apply below_alloc | apply below_drewN | apply Below.drew)⟩
  | true =>
  obtain ⟨b1, b2⟩ := wi_b h1
  have hw : IntKind.i64.wrap (n.Size - 1) = n.Size - 1 := IntWalk.i64_in _ (by omega)
  cases hc : (wi n.Id 0 (n.Size - 1) && wi n.View 0 200 && wi n.Last 0 n.View) with
  | false =>
    have hr : repF n = 3 := by unfold repF; rw [if_pos (by rw [h1]; simp only [Bool.true_and]; rw [hc]; rfl)]
    rw [hr]; clear hr
    cases h2 : wi n.Id 0 (n.Size - 1)
    · clear hc
      go_enter Tryz.func25, Tryz.ntmps25
      go_wp2_with fail
      go_quiet ((first | (go_at_call 46; exact Calls.quiet_of_same ((l1In_c _ _ _ _).mono fun e w' ⟨he, hw⟩ => ⟨he, hw.symm⟩)) | (go_at_call 47; exact Calls.quiet_of_same ((l9View_c _ _).mono fun e w' ⟨he, hw⟩ => ⟨he, hw.symm⟩))))
      go_wp2
      go_ret; exact ⟨rfl, by repeat (first | assumption | exact Below.refl _ _ | (refine below_trans ?_ (by assumption)) | apply below_alloc | apply below_drewN | apply Below.drew)⟩
    · cases h3 : wi n.View 0 200
      · clear hc
        go_enter Tryz.func25, Tryz.ntmps25
        go_wp2_with fail
        go_quiet ((first | (go_at_call 46; exact Calls.quiet_of_same ((l1In_c _ _ _ _).mono fun e w' ⟨he, hw⟩ => ⟨he, hw.symm⟩)) | (go_at_call 47; exact Calls.quiet_of_same ((l9View_c _ _).mono fun e w' ⟨he, hw⟩ => ⟨he, hw.symm⟩))))
        go_wp2
        go_ret; exact ⟨rfl, by repeat (first | assumption | exact Below.refl _ _ | (refine below_trans ?_ (by assumption)) | apply below_alloc | apply below_drewN | apply Below.drew)⟩
      · rw [h2, h3] at hc
        have h4 : wi n.Last 0 n.View = false := by simpa using hc
        clear hc
        go_enter Tryz.func25, Tryz.ntmps25
        go_wp2_with fail
        go_quiet ((first | (go_at_call 46; exact Calls.quiet_of_same ((l1In_c _ _ _ _).mono fun e w' ⟨he, hw⟩ => ⟨he, hw.symm⟩)) | (go_at_call 47; exact Calls.quiet_of_same ((l9View_c _ _).mono fun e w' ⟨he, hw⟩ => ⟨he, hw.symm⟩))))
        go_wp2
        go_ret; exact ⟨rfl, by repeat (first | assumption | exact Below.refl _ _ | (refine below_trans ?_ (by assumption)) | apply below_alloc | apply below_drewN | apply Below.drew)⟩
  | true =>
    simp only [Bool.and_eq_true] at hc
    obtain ⟨⟨h2, h3⟩, h4⟩ := hc
    obtain ⟨b3, b4⟩ := wi_b h3
    cases q5 : (logF n.Log != 0) with
    | true =>
      have hr : repF n = logF n.Log := by unfold repF; rw [if_neg (by rw [h1, h2, h3, h4]; simp), if_pos q5]
      have HR := Lib.hid hr; clear hr
      go_enter Tryz.func25, Tryz.ntmps25
      go_wp2_with fail
      go_quiet ((first | (go_at_call 46; exact Calls.quiet_of_same ((l1In_c _ _ _ _).mono fun e w' ⟨he, hw⟩ => ⟨he, hw.symm⟩)) | (go_at_call 47; exact Calls.quiet_of_same ((l9View_c _ _).mono fun e w' ⟨he, hw⟩ => ⟨he, hw.symm⟩))))
      go_wp2_with (first | (go_at_call 28; refine (logFaultS_c _ _ _ _ ?_).mono ?_; exact h5.below (by repeat (first | assumption | exact Below.refl _ _ | (refine below_trans ?_ (by assumption)) | apply below_alloc | apply below_drewN | apply Below.drew)); rintro e w1 ⟨rfl, hb1⟩))
      go_ret; exact ⟨ret_int HR.out.symm, by repeat (first | assumption | exact Below.refl _ _ | (refine below_trans ?_ (by assumption)) | apply below_alloc | apply below_drewN | apply Below.drew)⟩
    | false =>
    cases q6 : wi n.Commit 0 n.Log.length with
    | false =>
      have hr : repF n = 3 := by unfold repF; rw [if_neg (by rw [h1, h2, h3, h4]; simp), if_neg (by rw [q5]; simp), if_pos (by rw [q6]; rfl)]
      have HR := Lib.hid hr; clear hr
      go_enter Tryz.func25, Tryz.ntmps25
      go_wp2_with fail
      go_quiet ((first | (go_at_call 46; exact Calls.quiet_of_same ((l1In_c _ _ _ _).mono fun e w' ⟨he, hw⟩ => ⟨he, hw.symm⟩)) | (go_at_call 47; exact Calls.quiet_of_same ((l9View_c _ _).mono fun e w' ⟨he, hw⟩ => ⟨he, hw.symm⟩))))
      go_wp2_with (first | (go_at_call 28; refine (logFaultS_c _ _ _ _ ?_).mono ?_; exact h5.below (by repeat (first | assumption | exact Below.refl _ _ | (refine below_trans ?_ (by assumption)) | apply below_alloc | apply below_drewN | apply Below.drew)); rintro e w1 ⟨rfl, hb1⟩; have g1 := liesReplica ((hl.below (by repeat (first | assumption | exact Below.refl _ _ | (refine below_trans ?_ (by assumption)) | apply below_alloc | apply below_drewN | apply Below.drew)) : Lies w1 _ _))) | (go_at_call 46; refine (l1In_c _ _ _ _).mono ?_; rintro e w' ⟨rfl, rfl⟩))
      go_ret; exact ⟨ret_int HR.out.symm, by repeat (first | assumption | exact Below.refl _ _ | (refine below_trans ?_ (by assumption)) | apply below_alloc | apply below_drewN | apply Below.drew)⟩
    | true =>
      have hr := repF_tail n h1 h2 h3 (by rw [h4]; rfl) q5 (by rw [q6]; rfl)
      have HR := Lib.hid hr; clear hr
      go_enter Tryz.func25, Tryz.ntmps25
      go_wp2_with fail
      go_quiet ((first | (go_at_call 46; exact Calls.quiet_of_same ((l1In_c _ _ _ _).mono fun e w' ⟨he, hw⟩ => ⟨he, hw.symm⟩)) | (go_at_call 47; exact Calls.quiet_of_same ((l9View_c _ _).mono fun e w' ⟨he, hw⟩ => ⟨he, hw.symm⟩))))
      go_wp2_with (first | (go_at_call 28; refine (logFaultS_c _ _ _ _ ?_).mono ?_; exact h5.below (by repeat (first | assumption | exact Below.refl _ _ | (refine below_trans ?_ (by assumption)) | apply below_alloc | apply below_drewN | apply Below.drew)); rintro e w1 ⟨rfl, hb1⟩; have g1 := liesReplica ((hl.below (by repeat (first | assumption | exact Below.refl _ _ | (refine below_trans ?_ (by assumption)) | apply below_alloc | apply below_drewN | apply Below.drew)) : Lies w1 _ _)); have HB1 : Below w.heap.size w w1 := (by repeat (first | assumption | exact Below.refl _ _ | (refine below_trans ?_ (by assumption)) | apply below_alloc | apply below_drewN | apply Below.drew))) | (go_at_call 46; refine (l1In_c _ _ _ _).mono ?_; rintro e w' ⟨rfl, rfl⟩))
      clear g0 hb1
      go_upto_region 9 with fail
      go_cut [86] (fun s W => s = .bool (sizesB n) ∧ Below w.heap.size w W)
      case first =>
        have hz := sizesB_eq n
        have HZ := Lib.hid hz; clear hz
        generalize hx : ((n.Oks.length : Int) == oksN n && (n.Asks.length : Int) == asksN n && (n.Doers.length : Int) == asksN n) = x at HZ
        have hS := fun (W : World) (hW : Below w.heap.size w W) => l9Sizes_c n p W (hat.below hW) b3 b1 b2
        rw [hx] at hS; clear hx
        cases hN : n.Normal with
        | false =>
          go_quiet ((go_at_call 48; exact Calls.quiet_of (hS _ (by repeat (first | assumption | exact Below.refl _ _ | (refine below_trans ?_ (by assumption)) | apply below_alloc | apply below_drewN | apply Below.drew)))))
          go_wp2_with fail; go_meet; exact ⟨by rw [HZ.out, hN]; simp, by repeat (first | assumption | exact Below.refl _ _ | (refine below_trans ?_ (by assumption)) | apply below_alloc | apply below_drewN | apply Below.drew)⟩
        | true =>
          cases hL : (n.Last != n.View) with
          | true =>
            go_quiet (fail)
            go_wp2_with fail; go_meet; exact ⟨by rw [HZ.out, hN, hL]; simp, by repeat (first | assumption | exact Below.refl _ _ | (refine below_trans ?_ (by assumption)) | apply below_alloc | apply below_drewN | apply Below.drew)⟩
          | false =>
            go_quiet ((go_at_call 48; exact Calls.quiet_of (hS _ (by repeat (first | assumption | exact Below.refl _ _ | (refine below_trans ?_ (by assumption)) | apply below_alloc | apply below_drewN | apply Below.drew)))))
            go_wp2_with fail; go_meet; exact ⟨by rw [HZ.out, hN, hL]; simp, by repeat (first | assumption | exact Below.refl _ _ | (refine below_trans ?_ (by assumption)) | apply below_alloc | apply below_drewN | apply Below.drew)⟩
      case rest =>
        obtain ⟨rfl, hB2⟩ := hcut
        clear g1 HB1
        generalize hx : sizesB n = x at HR ⊢
        cases x
        · have hp : ∀ x : Bool, n.Oks.any (fun k => !wi k 0 n.Log.length) = x → repF n = if x then 3 else first doerF n.Doers := by intro x hx; rw [HR.out, if_neg (by simp), hx]
          have HP := Lib.hid hp
          clear hp HR
          go_wp2_with fail
          go_loopw [5] (fun i W => ∃ k : Nat, k ≤ n.Oks.length ∧ i = .int .i64 k ∧ (n.Oks.take k).any (fun k => !wi k 0 n.Log.length) = false ∧ Below w.heap.size w W) (fun i _ => n.Oks.length - (intOf i).toNat)
          case atStart => exact ⟨0, Nat.zero_le _, rfl, by simp, hB2⟩
          case round =>
            obtain ⟨k, hk, rfl, hf, hb⟩ := hrel
            have gk := liesReplica (hl.below hb)
            by_cases hlt : k < n.Oks.length
            · have HS := Lib.hid hf; clear hf
              obtain ⟨a, cs, ea, hl', hr'⟩ := (h7.below hb).at (List.getElem?_eq_getElem hlt)
              subst ea
              obtain rfl := hr'
              have f0 := hl'.c0
              simp only [show kInt.sz = 1 from rfl, Nat.mul_one] at f0
              clear hl'
              generalize hy : n.Oks[k] = y at f0
              have HY := Lib.hid hy; clear hy
              cases hq : wi y 0 n.Log.length with
              | false =>
                go_wp2_with (first | (go_at_call 46; refine (l1In_c _ _ _ _).mono ?_; rintro e w' ⟨rfl, rfl⟩))
                go_ret
                refine ⟨ret_int ?_, by repeat (first | assumption | exact Below.refl _ _ | (refine below_trans ?_ (by assumption)) | apply below_alloc | apply below_drewN | apply Below.drew)⟩
                rw [HP.out true]; rfl
                exact List.any_eq_true.2 ⟨n.Oks[k], List.getElem_mem hlt, by rw [HY.out, hq]; rfl⟩
              | true =>
                go_wp2_with (first | (go_at_call 46; refine (l1In_c _ _ _ _).mono ?_; rintro e w' ⟨rfl, rfl⟩))
                exact ⟨⟨k + 1, hlt, by go_num, by rw [any_take_succ hlt, HS.out, HY.out, hq]; rfl, by repeat (first | assumption | exact Below.refl _ _ | (refine below_trans ?_ (by assumption)) | apply below_alloc | apply below_drewN | apply Below.drew)⟩, by simp [intOf]; omega⟩
            · have hq := hf
              rw [List.take_of_length_le (by omega)] at hq
              have HQ := Lib.hid (HP.out false hq)
              clear hf hq HP
              go_wp2_with fail
              clear gk
              go_loopw [6] (fun i W => ∃ k : Nat, k ≤ n.Doers.length ∧ i = .int .i64 k ∧ first doerF (n.Doers.drop k) = first doerF n.Doers ∧ Below w.heap.size w W) (fun i _ => n.Doers.length - (intOf i).toNat)
              case atStart => exact ⟨0, Nat.zero_le _, rfl, rfl, hb⟩
              case round =>
                clear hlt hk hb
                obtain ⟨k, hk, rfl, hf, hb⟩ := hrel
                have gk := liesReplica (hl.below hb)
                by_cases hlt : k < n.Doers.length
                · have hs := first_drop doerF n.Doers k hlt
                  have HS := Lib.hid (hs.symm.trans hf); clear hs hf
                  obtain ⟨a, ea, hd⟩ := (h9.below hb).at_ hlt
                  subst ea
                  simp only [show kDoer.sz = 4 from rfl] at hd
                  generalize hy : n.Doers[k] = y at hd HS
                  go_wp2_with (go_at_call 49; refine (l9Doer_c y _ _ hd).mono ?_; rintro e w' ⟨rfl, hb5⟩)
                  · go_ret
                    exact ⟨ret_int (by rw [HQ.out]; simp only [Bool.false_eq_true, if_false]; rw [← HS.out, if_pos (by assumption)]), by repeat (first | assumption | exact Below.refl _ _ | (refine below_trans ?_ (by assumption)) | apply below_alloc | apply below_drewN | apply Below.drew)⟩
                  · exact ⟨⟨k + 1, hlt, by go_num, by rw [← HS.out, if_neg (by simp_all)], by repeat (first | assumption | exact Below.refl _ _ | (refine below_trans ?_ (by assumption)) | apply below_alloc | apply below_drewN | apply Below.drew)⟩, by simp [intOf]; omega⟩
                · have HF := Lib.hid hf; clear hf
                  go_wp2
                  go_ret
                  exact ⟨ret_int (by rw [HQ.out]; simp only [Bool.false_eq_true, if_false]; rw [← HF.out, List.drop_of_length_le (by omega)]; rfl), by repeat (first | assumption | exact Below.refl _ _ | (refine below_trans ?_ (by assumption)) | apply below_alloc | apply below_drewN | apply Below.drew)⟩
        · go_wp2
          go_ret; exact ⟨ret_int HR.out.symm, hB2⟩
end Go.Proofs.YtdjfehjddfbbjaaGreatDoor
