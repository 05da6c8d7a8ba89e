/- Whether the primary of the greatest view has all that is sealed: the reference's l13Have. -/
import Derived.Test.YtfffbjeaebmhbaaF4
import Derived.Test.YtfffbjeaebmhbaaB2
set_option linter.unusedVariables false
set_option linter.unusedSimpArgs false
namespace Go.Proofs.Ytfffbjeaebmhbaa
open Go Go.RowKit Mk
set_option maxRecDepth 100000 in
set_option maxHeartbeats 2000000 in
theorem l13Have_c (c : SCluster) (p : Addr) (w : World) (h : At kCluster w p c) (hcs : ∀ n ∈ c.Nodes, Fine n) :
    Calls Try.prog 91 #[.pointer (some p)] w fun e w' => e = .returned (.bool (haveB c)) ∧ ∃ m, w' = w.drewN m := by
  obtain ⟨A0, c0, A1, c1, A2, c2, hh⟩ := atCluster h
  obtain ⟨f0, f1, f2, h0, h1, h2⟩ := hh
  have hl0 := h0.le63
  clear h h1 f1
  go_enter Try.func91, Try.ntmps91
  go_wp2_with fail
  go_loopw [3, 4] (fun l i W => ∃ k : Nat, k ≤ c.Nodes.length ∧ i = .int .i64 k ∧ ∃ m : Int, l = .int .i64 m ∧ lvL m (c.Nodes.drop k) = lvL (-1) c.Nodes ∧ W = w) (fun _ i _ => c.Nodes.length - (intOf i).toNat)
  case atStart => exact ⟨0, Nat.zero_le _, rfl, _, rfl, rfl, rfl⟩
  case round =>
    obtain ⟨k, hk, rfl, m, rfl, hm, rfl⟩ := hrel
    by_cases hlt : k < c.Nodes.length
    · have hlt' : (k : Int) < (c.Nodes.length : Int) := by omega
      have hd := lvL_drop c.Nodes m k hlt
      obtain ⟨a, ea, hx⟩ := h0.at_ hlt
      subst ea
      simp only [show kReplica.sz = 10 from rfl] at hx
      clear hcs
      generalize c.Nodes[k] = n at hx hd
      obtain ⟨B5, d5, B7, d7, B8, d8, B9, d9, hq⟩ := atReplica hx
      obtain ⟨q0, q1, q2, q3, q4, q5, q6, q7, q8, q9, g5, g7, g8, g9⟩ := hq
      clear hx g5 g7 g8 g9 h2 f2
      cases hN : n.Normal with
      | true =>
        rw [hN, if_pos rfl] at hd
        have HM := Lib.hid (hd.symm.trans hm)
        clear hd hm
        go_wp2_with ((go_at_call 143; (with_reducible refine (l1Max_c _ _ _).mono ?_); rintro e w' ⟨rfl, rfl⟩))
        exact ⟨⟨k + 1, hlt, by go_num, _, rfl, HM.out, by first | rfl | trivial⟩, by simp [intOf]; omega⟩
      | false =>
        rw [hN, if_neg (by simp)] at hd
        have HM := Lib.hid (hd.symm.trans hm)
        clear hd hm
        go_wp2_with fail
        exact ⟨⟨k + 1, hlt, by go_num, _, rfl, HM.out, by first | rfl | trivial⟩, by simp [intOf]; omega⟩
    · have hk' : k = c.Nodes.length := by omega
      rw [hk', List.drop_length] at hm
      subst hk'
      have HM := Lib.hid (show m = lvL (-1) c.Nodes from hm)
      clear hm hlt hk
      go_wp2_with fail
      go_loopw [5] (fun i W => ∃ k : Nat, k ≤ c.Nodes.length ∧ i = .int .i64 k ∧ (c.Nodes.take k).any (lacks c m) = false ∧ ∃ q, W = wr.drewN q) (fun i _ => c.Nodes.length - (intOf i).toNat)
      case atStart => exact ⟨0, Nat.zero_le _, rfl, rfl, 0, rfl⟩
      case round =>
        obtain ⟨k, hk, rfl, hf, q, rfl⟩ := hrel
        by_cases hlt : k < c.Nodes.length
        · have hlt' : (k : Int) < (c.Nodes.length : Int) := by omega
          have ht := any_take_succ (p := lacks c m) hlt
          rw [hf, Bool.false_or] at ht
          have hall : lacks c m c.Nodes[k] = true → haveB c = false := by
            intro hx
            unfold haveB
            rw [Bool.not_eq_false', List.any_eq_true, ← HM.out]
            exact ⟨_, List.getElem_mem hlt, hx⟩
          have hfi := hcs _ (List.getElem_mem hlt)
          obtain ⟨a, ea, hx⟩ := h0.at_ hlt
          subst ea
          simp only [show kReplica.sz = 10 from rfl] at hx
          generalize c.Nodes[k] = n at hx ht hall hfi
          obtain ⟨⟨e1, e2⟩, _⟩ := hfi
          obtain ⟨e1, e1'⟩ := wi_b e1
          obtain ⟨e2, e2'⟩ := wi_b e2
          have HP := Lib.hid (fun (W : World) (hb : Below wr.heap.size wr W) => l9Primary_c n _ W (hx.below hb) e2 e1)
          obtain ⟨B5, d5, B7, d7, B8, d8, B9, d9, hq⟩ := atReplica hx
          obtain ⟨q0, q1, q2, q3, q4, q5, q6, q7, q8, q9, g5, g7, g8, g9⟩ := hq
          have HI := Lib.hid (fun (W : World) (hb : Below wr.heap.size wr W) => isBeginningS_c c.Sealed n.Log A2 c2 B5 d5 W (h2.below hb) (g5.below hb))
          have HT := Lib.hid ht
          have HA := Lib.hid hall
          clear ht hall hx hcs hf g5 g7 g8 g9 h0 h2 q0 q1 q4 q6 q7 q8 q9 e1 e2 e1' e2'
          cases r1 : n.Normal with
          | false =>
            have HL := Lib.hid (show lacks c m n = false by unfold lacks leadsB; rw [r1]; rfl)
            go_wp2_with fail
            go_quiet (fail)
            go_wp2_with fail
            exact ⟨⟨k + 1, hlt, by go_num, by rw [HT.out, HL.out], by first | exact ⟨_, rfl⟩ | (simp only [World.drewN_drewN]; exact ⟨_, rfl⟩)⟩, by simp [intOf]; omega⟩
          | true =>
            cases r2 : isPrim n with
            | false =>
              have HL := Lib.hid (show lacks c m n = false by unfold lacks leadsB; rw [r1, r2]; rfl)
              rw [r2] at HP
              clear r2
              go_wp2_with fail
              go_quiet ((go_at_call 85; (first | (with_reducible refine Calls.quiet_of (HP.out _ ?_)) | (with_reducible refine quiet_sum (HP.out _ ?_))); repeat (first | (with_reducible assumption) | (with_reducible exact Below.refl _ _) | (with_reducible apply below_alloc) | (with_reducible apply below_drewN) | (with_reducible apply Below.drew) | (with_reducible refine below_set ?_ (by dsimp only; omega) _) | (with_reducible refine below_trans ?_ (by assumption)))))
              go_wp2_with fail
              exact ⟨⟨k + 1, hlt, by go_num, by rw [HT.out, HL.out], by first | exact ⟨_, rfl⟩ | (simp only [World.drewN_drewN]; exact ⟨_, rfl⟩)⟩, by simp [intOf]; omega⟩
            | true =>
              rw [r2] at HP
              cases r3 : (n.View == m) with
              | false =>
                have HL := Lib.hid (show lacks c m n = false by unfold lacks leadsB; rw [r1, r2, r3]; rfl)
                clear r2
                go_wp2_with fail
                go_quiet ((go_at_call 85; (first | (with_reducible refine Calls.quiet_of (HP.out _ ?_)) | (with_reducible refine quiet_sum (HP.out _ ?_))); repeat (first | (with_reducible assumption) | (with_reducible exact Below.refl _ _) | (with_reducible apply below_alloc) | (with_reducible apply below_drewN) | (with_reducible apply Below.drew) | (with_reducible refine below_set ?_ (by dsimp only; omega) _) | (with_reducible refine below_trans ?_ (by assumption)))))
                go_wp2_with fail
                exact ⟨⟨k + 1, hlt, by go_num, by rw [HT.out, HL.out], by first | exact ⟨_, rfl⟩ | (simp only [World.drewN_drewN]; exact ⟨_, rfl⟩)⟩, by simp [intOf]; omega⟩
              | true =>
                cases r4 : isB c.Sealed n.Log with
                | true =>
                  have HL := Lib.hid (show lacks c m n = false by unfold lacks leadsB; rw [r1, r2, r3, r4]; rfl)
                  rw [r4] at HI
                  clear r2 r4
                  go_wp2_with fail
                  go_quiet ((first | (go_at_call 85; (first | (with_reducible refine Calls.quiet_of (HP.out _ ?_)) | (with_reducible refine quiet_sum (HP.out _ ?_))); repeat (first | (with_reducible assumption) | (with_reducible exact Below.refl _ _) | (with_reducible apply below_alloc) | (with_reducible apply below_drewN) | (with_reducible apply Below.drew) | (with_reducible refine below_set ?_ (by dsimp only; omega) _) | (with_reducible refine below_trans ?_ (by assumption)))) | (go_at_call 87; (first | (with_reducible refine Calls.quiet_of (HI.out _ ?_)) | (with_reducible refine quiet_sum (HI.out _ ?_))); repeat (first | (with_reducible assumption) | (with_reducible exact Below.refl _ _) | (with_reducible apply below_alloc) | (with_reducible apply below_drewN) | (with_reducible apply Below.drew) | (with_reducible refine below_set ?_ (by dsimp only; omega) _) | (with_reducible refine below_trans ?_ (by assumption))))))
                  go_wp2_with fail
                  exact ⟨⟨k + 1, hlt, by go_num, by rw [HT.out, HL.out], by first | exact ⟨_, rfl⟩ | (simp only [World.drewN_drewN]; exact ⟨_, rfl⟩)⟩, by simp [intOf]; omega⟩
                | false =>
                  have HL := Lib.hid (show lacks c m n = true by unfold lacks leadsB; rw [r1, r2, r3, r4]; rfl)
                  rw [r4] at HI
                  clear r2 r4
                  go_wp2_with fail
                  go_quiet ((first | (go_at_call 85; (first | (with_reducible refine Calls.quiet_of (HP.out _ ?_)) | (with_reducible refine quiet_sum (HP.out _ ?_))); repeat (first | (with_reducible assumption) | (with_reducible exact Below.refl _ _) | (with_reducible apply below_alloc) | (with_reducible apply below_drewN) | (with_reducible apply Below.drew) | (with_reducible refine below_set ?_ (by dsimp only; omega) _) | (with_reducible refine below_trans ?_ (by assumption)))) | (go_at_call 87; (first | (with_reducible refine Calls.quiet_of (HI.out _ ?_)) | (with_reducible refine quiet_sum (HI.out _ ?_))); repeat (first | (with_reducible assumption) | (with_reducible exact Below.refl _ _) | (with_reducible apply below_alloc) | (with_reducible apply below_drewN) | (with_reducible apply Below.drew) | (with_reducible refine below_set ?_ (by dsimp only; omega) _) | (with_reducible refine below_trans ?_ (by assumption))))))
                  go_wp2_with fail
                  go_ret
                  exact ⟨ret_bool (HA.out HL.out).symm, by first | exact ⟨_, rfl⟩ | (simp only [World.drewN_drewN]; exact ⟨_, rfl⟩)⟩
        · have hk' : k = c.Nodes.length := by omega
          subst hk'
          rw [List.take_length] at hf
          have HF := Lib.hid hf
          clear hf
          go_wp2
          go_ret
          exact ⟨ret_bool (by unfold haveB; rw [← HM.out, HF.out]; rfl), q, rfl⟩
end Go.Proofs.Ytfffbjeaebmhbaa
