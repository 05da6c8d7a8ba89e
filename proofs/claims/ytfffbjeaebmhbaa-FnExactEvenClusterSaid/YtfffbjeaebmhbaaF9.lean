/- The reference's EvenCluster. -/
import Derived.Test.YtfffbjeaebmhbaaF8
set_option linter.unusedVariables false
set_option linter.unusedSimpArgs false
namespace Go.Proofs.Ytfffbjeaebmhbaa
open Go Go.RowKit Mk
def evenX (c : SCluster) : Bool := clusF c == 0 && evenB c
theorem isB_eqL {a b : List SEntry} (h : ((a.length : Int) != (b.length : Int)) = false) : isB a b = eqL a b := by
  have e : (a.length == b.length) = true := by simp only [bne_eq_false_iff_eq] at h; rw [beq_iff_eq]; omega
  unfold isB eqL; rw [e]; rfl
theorem eqL_len {a b : List SEntry} (h : ((a.length : Int) != (b.length : Int)) = true) : eqL a b = false := by
  have e : (a.length == b.length) = false := by rw [bne_iff_ne] at h; rw [beq_eq_false_iff_ne]; omega
  unfold eqL; rw [e]; rfl
set_option maxRecDepth 100000 in
set_option maxHeartbeats 4000000 in
theorem sEvenCluster_c (c : SCluster) (A0 : Option Addr) (c0 : Nat) (A1 : Option Addr) (c1 : Nat) (A2 : Option Addr) (c2 : Nat) (w : World) (h0 : RdS kReplica w A0 c0 c.Nodes) (h1 : RdS kMail w A1 c1 c.Mails) (h2 : RdS kEntry w A2 c2 c.Sealed) :
    Calls Try.prog 33 #[.agg #[.slice A0 c.Nodes.length c0, .slice A1 c.Mails.length c1, .slice A2 c.Sealed.length c2]] w fun e w' => e = .returned (.bool (evenX c)) ∧ Below w.heap.size w w' := by
  have hl0 := h0.le63
  have hat := boxCluster w c 44 h0 h1 h2
  cases q : (clusF c != 0) with
  | true =>
    have e : evenX c = false := by unfold evenX; rw [show (clusF c == 0) = false by simpa using q]; rfl
    rw [e]
    go_enter Try.func33, Try.ntmps33
    go_wp2_with (go_at_call 72; refine (l11Fault_c c _ _ (hat.below (by repeat (first | assumption | exact Below.refl _ _ | (refine below_trans ?_ (by assumption)) | apply below_alloc | apply below_drewN | apply Below.drew)))).mono ?_; rintro e w1 ⟨rfl, hb1⟩; have y1 := bcell hb1)
    go_ret
    exact ⟨rfl, by repeat (first | (with_reducible assumption) | (with_reducible exact Below.refl _ _) | (with_reducible apply below_alloc) | (with_reducible apply below_drewN) | (with_reducible apply Below.drew) | (with_reducible refine below_set ?_ (by dsimp only; omega) _) | (with_reducible refine below_trans ?_ (by assumption)))⟩
  | false =>
    have hz : clusF c = 0 := by simpa using q
    have hsz := clusF_size hz
    have e : evenX c = evenB c := by unfold evenX; rw [hz]; rfl
    rw [e]
    clear e hz
    go_enter Try.func33, Try.ntmps33
    go_wp2_with (go_at_call 72; refine (l11Fault_c c _ _ (hat.below (by repeat (first | assumption | exact Below.refl _ _ | (refine below_trans ?_ (by assumption)) | apply below_alloc | apply below_drewN | apply Below.drew)))).mono ?_; rintro e w1 ⟨rfl, hb1⟩; have i1 : InCluster w c 44 A0 c0 A1 c1 A2 c2 w1 := (by unfold InCluster; repeat (first | (with_reducible assumption) | (with_reducible exact Below.refl _ _) | (with_reducible apply below_alloc) | (with_reducible apply below_drewN) | (with_reducible apply Below.drew) | (with_reducible refine below_set ?_ (by dsimp only; omega) _) | (with_reducible refine below_trans ?_ (by assumption)))); have s1 := i1.seen; obtain ⟨a0, ea, hx⟩ := h0.at_ (k := 0) hsz.1; subst ea; have hls : 0 < c.Nodes.length := hsz.1; have hls' : (0 : Int) < (c.Nodes.length : Int) := (by omega))
    simp only [Nat.zero_mul, show ∀ a : Addr, a.add 0 = a from fun a => rfl] at hx
    have hev : evenB c = !(c.Nodes.any (odd c.Nodes[0])) := by
      unfold evenB
      split
      · rename_i hc; rw [hc] at hls; cases hls
      · rename_i f fs hc; simp only [hc, List.getElem_cons_zero]
    have HV := Lib.hid hev
    clear hev
    generalize c.Nodes[0] = f at hx HV
    have bw1 : Below w.heap.size w w1 := i1.below
    have hx1 := hx.below bw1
    obtain ⟨D5, e5, D7, e7, D8, e8, D9, e9, hq⟩ := atReplica hx1
    obtain ⟨z0, z1, z2, z3, z4, z5, z6, z7, z8, z9, t5, t7, t8, t9⟩ := hq
    obtain ⟨s0, s1', s2⟩ := s1
    have k0 := h0.below bw1
    clear q hat s1' s2 h0 h1 h2 hx hx1 t7 t8 t9 z0 z1 z3 z4 z6 z7 z8 z9
    go_loopw [4] (fun i W => ∃ k : Nat, k ≤ c.Nodes.length ∧ i = .int .i64 k ∧ (c.Nodes.take k).any (odd f) = false ∧ ∃ m, W = w1.drewN m) (fun i _ => c.Nodes.length - (intOf i).toNat)
    case atStart => exact ⟨0, Nat.zero_le _, rfl, rfl, 0, rfl⟩
    case round =>
      obtain ⟨k, hk, rfl, hf, m, rfl⟩ := hrel
      by_cases hlt : k < c.Nodes.length
      · have hlt' : (k : Int) < (c.Nodes.length : Int) := by omega
        have ht := any_take_succ (p := odd f) hlt
        rw [hf, Bool.false_or] at ht
        have hall : odd f c.Nodes[k] = true → evenB c = false := by
          intro hx
          rw [HV.out, Bool.not_eq_false', List.any_eq_true]
          exact ⟨_, List.getElem_mem hlt, hx⟩
        obtain ⟨a, ea, hx⟩ := k0.at_ hlt
        cases ea
        simp only [show kReplica.sz = 10 from rfl] at hx
        generalize c.Nodes[k] = n at hx ht hall
        obtain ⟨B5, d5, B7, d7, B8, d8, B9, d9, hq⟩ := atReplica hx
        obtain ⟨q0, q1, q2, q3, q4, q5, q6, q7, q8, q9, g5, g7, g8, g9⟩ := hq
        have HI := Lib.hid (fun (W : World) (hb : Below w1.heap.size w1 W) => isBeginningS_c n.Log f.Log B5 d5 D5 e5 W (g5.below hb) (t5.below hb))
        have HT := Lib.hid ht
        have HA := Lib.hid hall
        clear ht hall hx hf g5 g7 g8 g9 t5 k0 q0 q1 q4 q7 q8 q9
        cases r1 : n.Normal with
        | false =>
          have HL := Lib.hid (show odd f n = true by unfold odd; rw [r1]; rfl)
          go_wp2_with fail
          go_quiet (fail)
          go_wp2_with fail
          go_ret
          exact ⟨ret_bool (HA.out HL.out).symm, by repeat (first | (with_reducible assumption) | (with_reducible exact Below.refl _ _) | (with_reducible apply below_alloc) | (with_reducible apply below_drewN) | (with_reducible apply Below.drew) | (with_reducible refine below_set ?_ (by dsimp only; omega) _) | (with_reducible refine below_trans ?_ (by assumption)))⟩
        | true =>
          cases r2 : (n.View != f.View) with
          | true =>
            have HL := Lib.hid (show odd f n = true by unfold odd; rw [r1, r2]; rfl)
            go_wp2_with fail
            go_quiet (fail)
            go_wp2_with fail
            go_ret
            exact ⟨ret_bool (HA.out HL.out).symm, by repeat (first | (with_reducible assumption) | (with_reducible exact Below.refl _ _) | (with_reducible apply below_alloc) | (with_reducible apply below_drewN) | (with_reducible apply Below.drew) | (with_reducible refine below_set ?_ (by dsimp only; omega) _) | (with_reducible refine below_trans ?_ (by assumption)))⟩
          | false =>
            cases r3 : ((n.Log.length : Int) != (f.Log.length : Int)) with
            | true =>
              have HL := Lib.hid (show odd f n = true by unfold odd; rw [r1, r2, eqL_len r3]; rfl)
              go_wp2_with fail
              go_quiet (fail)
              go_wp2_with fail
              go_ret
              exact ⟨ret_bool (HA.out HL.out).symm, by repeat (first | (with_reducible assumption) | (with_reducible exact Below.refl _ _) | (with_reducible apply below_alloc) | (with_reducible apply below_drewN) | (with_reducible apply Below.drew) | (with_reducible refine below_set ?_ (by dsimp only; omega) _) | (with_reducible refine below_trans ?_ (by assumption)))⟩
            | false =>
              cases r4 : isB n.Log f.Log with
              | false =>
                have HL := Lib.hid (show odd f n = true by unfold odd; rw [r1, r2, ← isB_eqL r3, r4]; rfl)
                rw [r4] at HI
                clear r4
                go_wp2_with fail
                go_quiet ((go_at_call 87; (first | (with_reducible refine Calls.quiet_of (HI.out _ ?_)) | (with_reducible refine quiet_sum (HI.out _ ?_))); repeat (first | (with_reducible assumption) | (with_reducible exact Below.refl _ _) | (with_reducible apply below_alloc) | (with_reducible apply below_drewN) | (with_reducible apply Below.drew) | (with_reducible refine below_set ?_ (by dsimp only; omega) _) | (with_reducible refine below_trans ?_ (by assumption)))))
                go_wp2_with fail
                go_ret
                exact ⟨ret_bool (HA.out HL.out).symm, by repeat (first | (with_reducible assumption) | (with_reducible exact Below.refl _ _) | (with_reducible apply below_alloc) | (with_reducible apply below_drewN) | (with_reducible apply Below.drew) | (with_reducible refine below_set ?_ (by dsimp only; omega) _) | (with_reducible refine below_trans ?_ (by assumption)))⟩
              | true =>
                rw [r4] at HI
                cases r5 : (n.Commit != (n.Log.length : Int)) with
                | true =>
                  have HL := Lib.hid (show odd f n = true by unfold odd; rw [r1, r2, ← isB_eqL r3, r4, r5]; rfl)
                  clear r4
                  go_wp2_with fail
                  go_quiet ((go_at_call 87; (first | (with_reducible refine Calls.quiet_of (HI.out _ ?_)) | (with_reducible refine quiet_sum (HI.out _ ?_))); repeat (first | (with_reducible assumption) | (with_reducible exact Below.refl _ _) | (with_reducible apply below_alloc) | (with_reducible apply below_drewN) | (with_reducible apply Below.drew) | (with_reducible refine below_set ?_ (by dsimp only; omega) _) | (with_reducible refine below_trans ?_ (by assumption)))))
                  go_wp2_with fail
                  go_ret
                  exact ⟨ret_bool (HA.out HL.out).symm, by repeat (first | (with_reducible assumption) | (with_reducible exact Below.refl _ _) | (with_reducible apply below_alloc) | (with_reducible apply below_drewN) | (with_reducible apply Below.drew) | (with_reducible refine below_set ?_ (by dsimp only; omega) _) | (with_reducible refine below_trans ?_ (by assumption)))⟩
                | false =>
                  have HL := Lib.hid (show odd f n = false by unfold odd; rw [r1, r2, ← isB_eqL r3, r4, r5]; rfl)
                  clear r4
                  go_wp2_with fail
                  go_quiet ((go_at_call 87; (first | (with_reducible refine Calls.quiet_of (HI.out _ ?_)) | (with_reducible refine quiet_sum (HI.out _ ?_))); repeat (first | (with_reducible assumption) | (with_reducible exact Below.refl _ _) | (with_reducible apply below_alloc) | (with_reducible apply below_drewN) | (with_reducible apply Below.drew) | (with_reducible refine below_set ?_ (by dsimp only; omega) _) | (with_reducible refine below_trans ?_ (by assumption)))))
                  go_wp2_with fail
                  exact ⟨⟨k + 1, hlt, by go_num, by rw [HT.out, HL.out], by first | exact ⟨_, rfl⟩ | (simp only [World.drewN_drewN]; exact ⟨_, rfl⟩)⟩, by simp [intOf]; omega⟩
      · have hk' : k = c.Nodes.length := by omega
        subst hk'
        rw [List.take_length] at hf
        have HF := Lib.hid hf
        clear hf
        go_wp2
        go_ret
        exact ⟨ret_bool (by rw [HV.out, HF.out]; rfl), by repeat (first | (with_reducible assumption) | (with_reducible exact Below.refl _ _) | (with_reducible apply below_alloc) | (with_reducible apply below_drewN) | (with_reducible apply Below.drew) | (with_reducible refine below_set ?_ (by dsimp only; omega) _) | (with_reducible refine below_trans ?_ (by assumption)))⟩
end Go.Proofs.Ytfffbjeaebmhbaa
