/- Faults of a cluster: what the reference's l11Fault comes to (written by gC1.py, own work). -/
import Derived.Test.YtdjfehjddfbbjaaGreatDoorB4
set_option linter.unusedVariables false
set_option linter.unusedSimpArgs false
namespace Go.Proofs.YtdjfehjddfbbjaaGreatDoor
open Go Go.RowKit Mk
theorem l11Place_c (c : SCluster) (p : Addr) (k : Int) (w : World) (h : At kCluster w p c) (hl : c.Nodes.length ≤ 5) (h1 : 1 ≤ c.Nodes.length) :
    Calls Tryz.prog 26 #[.pointer (some p), .int .i64 k] w fun e w' => e = .returned (.bool (wi k 0 (c.Nodes.length - 1))) ∧ w = w' := by
  obtain ⟨A0, c0, A1, c1, A2, c2, f0, f1, f2, hh⟩ := atCluster h
  clear f1 f2 hh h
  go_enter Tryz.func26, Tryz.ntmps26
  go_wp2_with (first | (go_at_call 46; refine (l1In_c _ _ _ _).mono ?_; rintro e w' ⟨rfl, rfl⟩))
  go_ret; exact ⟨rfl, rfl⟩
/-- No node of the first ones has a fault, and each has as many as there are. -/
def fineTo (c : SCluster) (k : Nat) : Prop := ∀ j, j < k → ∀ n, c.Nodes[j]? = some n → wi n.Size 1 5 = true
theorem nodeF_size {s : Int} {i : Nat} {n : SReplica} (h : (nodeF s i n != 0) = false) : wi n.Size 1 5 = true ∧ (repF n != 0) = false := by
  have : (repF n != 0) = false := by
    unfold nodeF at h
    cases hq : (repF n != 0)
    · rfl
    · rw [hq, if_pos rfl] at h; rw [hq] at h; cases h
  exact ⟨repF_size this, this⟩
theorem firstI_zero {α : Type} (f : Nat → α → Int) : ∀ (xs : List α) (i : Nat), firstI f i xs = 0 → ∀ j (x : α), xs[j]? = some x → f (i + j) x = 0
  | [], i, _, j, x, hx => by simp at hx
  | y :: ys, i, h, j, x, hx => by
    unfold firstI at h
    cases hq : (f i y != 0)
    · rw [hq, if_neg (by simp)] at h
      cases j with
      | zero => simp at hx; subst hx; simpa using hq
      | succ j =>
        have := firstI_zero f ys (i + 1) h j x (by simpa using hx)
        rwa [show i + 1 + j = i + (j + 1) from by omega] at this
    · rw [hq, if_pos rfl] at h; rw [h] at hq; cases hq
set_option maxRecDepth 100000 in
set_option maxHeartbeats 4000000 in
theorem l11Fault_c (c : SCluster) (p : Addr) (w : World) (h : At kCluster w p c) :
    Calls Tryz.prog 13 #[.pointer (some p)] w fun e w' => e = .returned (.int .i64 (clusF c)) ∧ Below w.heap.size w w' := by
  have hat := h
  obtain ⟨cs, hl, hr⟩ := h
  obtain ⟨A0, c0, A1, c1, A2, c2, rfl, h0, h1, h2⟩ := kCluster_open hr
  clear hr
  have g0 := liesCluster hl
  have hl0 := h0.le63
  have hl1 := h1.le63
  cases hs : wi c.Nodes.length 1 5 with
  | false =>
    have hr : clusF c = 2 := by simp [clusF, hs]
    have HR := Lib.hid hr; clear hr
    by_cases hz : c.Nodes.length = 0
    · have h3 : (c.Nodes.length : Int) < 1 := by omega
      clear hz hs
      go_enter Tryz.func13, Tryz.ntmps13
      go_wp2
      go_ret; exact ⟨ret_int HR.out.symm, by repeat (first | assumption | exact Below.refl _ _ | (refine below_trans ?_ (by assumption)) | apply below_alloc | apply below_drewN | apply Below.drew)⟩
    · have h3 : ¬ (c.Nodes.length : Int) < 1 := by omega
      have h4 : (5 : Int) < (c.Nodes.length : Int) := by
        have : ¬ ((c.Nodes.length : Int) ≤ 5) := fun hx => by rw [wi_t (by omega) hx] at hs; cases hs
        omega
      have h5 : 5 < c.Nodes.length := by omega
      clear hz hs
      go_enter Tryz.func13, Tryz.ntmps13
      go_wp2
      go_ret; exact ⟨ret_int HR.out.symm, by repeat (first | assumption | exact Below.refl _ _ | (refine below_trans ?_ (by assumption)) | apply below_alloc | apply below_drewN | apply Below.drew)⟩
  | true =>
    obtain ⟨b1, b2⟩ := wi_b hs
    have b3 : 1 ≤ c.Nodes.length := by omega
    have b4 : c.Nodes.length ≤ 5 := by omega
    by_cases hm : 120 < c.Mails.length
    · have hr : clusF c = 2 := by simp [clusF, hm]
      have HR := Lib.hid hr; clear hr
      go_enter Tryz.func13, Tryz.ntmps13
      go_wp2
      go_ret; exact ⟨ret_int HR.out.symm, by repeat (first | assumption | exact Below.refl _ _ | (refine below_trans ?_ (by assumption)) | apply below_alloc | apply below_drewN | apply Below.drew)⟩
    · have hr : clusF c = if firstI (nodeF c.Nodes.length) 0 c.Nodes != 0 then firstI (nodeF c.Nodes.length) 0 c.Nodes else if first (mailInF c) c.Mails != 0 then first (mailInF c) c.Mails else logF c.Sealed := by simp [clusF, hm, hs]
      have HR := Lib.hid hr; clear hr
      go_enter Tryz.func13, Tryz.ntmps13
      go_wp2_with fail
      any_goals (exfalso; omega)
      clear hm g0
      go_loopw [3] (fun i W => ∃ k : Nat, k ≤ c.Nodes.length ∧ i = .int .i64 k ∧ firstI (nodeF c.Nodes.length) k (c.Nodes.drop k) = firstI (nodeF c.Nodes.length) 0 c.Nodes ∧ Below w.heap.size w W) (fun i _ => c.Nodes.length - (intOf i).toNat)
      case atStart => exact ⟨0, Nat.zero_le _, rfl, rfl, by repeat (first | assumption | exact Below.refl _ _ | (refine below_trans ?_ (by assumption)) | apply below_alloc | apply below_drewN | apply Below.drew)⟩
      case round =>
        obtain ⟨k, hk, rfl, hf, hb⟩ := hrel
        have gk := liesCluster (hl.below hb)
        by_cases hlt : k < c.Nodes.length
        · have hsd := firstI_drop (nodeF c.Nodes.length) c.Nodes k hlt
          have HS := Lib.hid (hsd.symm.trans hf); clear hsd hf
          have hlt' : (k : Int) < (c.Nodes.length : Int) := by omega
          obtain ⟨a, ea, hn⟩ := (h0.below hb).at_ hlt
          subst ea
          simp only [show kReplica.sz = 10 from rfl] at hn
          generalize hy : c.Nodes[k] = n at hn HS
          have HY := Lib.hid hy; clear hy
          go_wp2_with (first | (go_at_call 25; refine (l9Fault_c n _ _ hn).mono ?_; rintro e w1 ⟨rfl, hb1⟩; have g1 := liesCluster (hl.below (below_trans hb hb1)); have hn1 := hn.below hb1))
          · have q := (show (repF n != 0) = true by assumption)
            go_ret; refine ⟨ret_int ?_, by repeat (first | assumption | exact Below.refl _ _ | (refine below_trans ?_ (by assumption)) | apply below_alloc | apply below_drewN | apply Below.drew)⟩
            have hh := HS.out
            have e : nodeF c.Nodes.length k n = repF n := by unfold nodeF; rw [if_pos q]
            rw [e, if_pos q] at hh
            rw [HR.out, ← hh, if_pos q]
          · have q := (show (repF n != 0) = false by assumption)
            obtain ⟨B5, d5, B7, d7, B8, d8, B9, d9, f0, f1, f2, f3, f4, f5, f6, f7, f8, f9, hh⟩ := atReplica hn1
            clear f2 f3 f4 f5 f6 f7 f8 f9 hh hn gk
            cases q1 : (n.Id != (k : Int)) with
            | true =>
              go_quiet (fail)
              go_wp2_with fail
              go_ret; refine ⟨ret_int ?_, by repeat (first | assumption | exact Below.refl _ _ | (refine below_trans ?_ (by assumption)) | apply below_alloc | apply below_drewN | apply Below.drew)⟩
              have hh := HS.out
              have e : nodeF c.Nodes.length k n = 1 := by unfold nodeF; rw [if_neg (by rw [q]; simp), if_pos (by rw [q1]; simp)]
              rw [e] at hh
              rw [HR.out, ← hh]; rfl
            | false =>
              cases q2 : (n.Size != (c.Nodes.length : Int)) with
              | true =>
                go_quiet (fail)
                go_wp2_with fail
                go_ret; refine ⟨ret_int ?_, by repeat (first | assumption | exact Below.refl _ _ | (refine below_trans ?_ (by assumption)) | apply below_alloc | apply below_drewN | apply Below.drew)⟩
                have hh := HS.out
                have e : nodeF c.Nodes.length k n = 1 := by unfold nodeF; rw [if_neg (by rw [q]; simp), if_pos (by rw [q1, q2]; simp)]
                rw [e] at hh
                rw [HR.out, ← hh]; rfl
              | false =>
                go_quiet (fail)
                go_wp2_with fail
                refine ⟨⟨k + 1, hlt, by go_num, ?_, by repeat (first | assumption | exact Below.refl _ _ | (refine below_trans ?_ (by assumption)) | apply below_alloc | apply below_drewN | apply Below.drew)⟩, by simp [intOf]; omega⟩
                have hh := HS.out
                have e : nodeF c.Nodes.length k n = 0 := by unfold nodeF; rw [if_neg (by rw [q]; simp), if_neg (by rw [q1, q2]; simp)]
                rw [e] at hh
                exact hh
        · have hz : firstI (nodeF c.Nodes.length) 0 c.Nodes = 0 := by rw [← hf, List.drop_of_length_le (by omega)]; rfl
          have hr2 : clusF c = if first (mailInF c) c.Mails != 0 then first (mailInF c) c.Mails else logF c.Sealed := by rw [HR.out, hz]; rfl
          have HR2 := Lib.hid hr2
          have HZ := Lib.hid hz
          clear hr2 hz HR hf
          go_wp2_with fail
          clear gk
          go_loopw [5] (fun i W => ∃ k : Nat, k ≤ c.Mails.length ∧ i = .int .i64 k ∧ first (mailInF c) (c.Mails.drop k) = first (mailInF c) c.Mails ∧ Below w.heap.size w W) (fun i _ => c.Mails.length - (intOf i).toNat)
          case atStart => exact ⟨0, Nat.zero_le _, rfl, rfl, hb⟩
          case round =>
            clear hb hlt hk
            obtain ⟨k, hk, rfl, hf, hb⟩ := hrel
            have gk := liesCluster (hl.below hb)
            by_cases hlt : k < c.Mails.length
            · have hsd := first_drop (mailInF c) c.Mails k hlt
              have HS := Lib.hid (hsd.symm.trans hf); clear hsd hf
              have hlt' : (k : Int) < (c.Mails.length : Int) := by omega
              obtain ⟨a, ea, hn⟩ := (h1.below hb).at_ hlt
              subst ea
              simp only [show kMail.sz = 15 from rfl] at hn
              generalize hy : c.Mails[k] = m at hn HS
              have HY := Lib.hid hy; clear hy
              obtain ⟨MB, md, m0, m1, m2, m3, m4, m5, m6, m7, m8, m9, m10, m11, m12, m13, m14, hmB⟩ := atMail hn
              clear hn
              cases ht : wi m.To 0 (c.Nodes.length - 1) with
              | false =>
                go_wp2_with (first | (go_at_call 26; refine (l11Place_c c _ _ _ (hat.below hb) b4 b3).mono ?_; rintro e w' ⟨rfl, rfl⟩))
                go_ret; refine ⟨ret_int ?_, by repeat (first | assumption | exact Below.refl _ _ | (refine below_trans ?_ (by assumption)) | apply below_alloc | apply below_drewN | apply Below.drew)⟩
                have hh := HS.out
                have e : mailInF c m = 3 := by simp [mailInF, ht]
                rw [HR2.out, ← hh, e]; rfl
              | true =>
                obtain ⟨t1, t2⟩ := wi_b ht
                have t3 : m.To.toNat < c.Nodes.length := by omega
                have t4 : m.To < (c.Nodes.length : Int) := by omega
                obtain ⟨a', ea, hn'⟩ := (h0.below hb).at_ t3
                subst ea
                simp only [show kReplica.sz = 10 from rfl] at hn'
                have hfine := nodeF_size (s := c.Nodes.length) (i := 0 + m.To.toNat) (n := c.Nodes[m.To.toNat]) (by rw [firstI_zero _ _ _ HZ.out _ _ (List.getElem?_eq_getElem t3)]; rfl)
                have e : mailInF c m = mailT c.Nodes[m.To.toNat] m := by
                  unfold mailInF
                  rw [if_neg (by rw [ht]; simp), List.getD_eq_getElem?_getD, List.getElem?_eq_getElem t3]
                  show mailF c.Nodes[m.To.toNat] m = _
                  unfold mailF
                  rw [if_neg (by rw [hfine.2]; simp)]
                have EE := Lib.hid e; clear e
                generalize hn2 : c.Nodes[m.To.toNat] = n at hn' hfine EE
                go_wp2_with (first | (go_at_call 26; refine (l11Place_c c _ _ _ (hat.below hb) b4 b3).mono ?_; rintro e w' ⟨rfl, rfl⟩))
                go_still_tail 20, (by kernel_rfl)
                change wpList _ _ _ _ _ wr.drew
                go_wp2_with (go_at_call 27; refine (l9Mail_c n _ m _ _ _ (hn'.below ?_) (hmB.below ?_) hfine.1).mono ?_; exact (Below.refl _ _).drew; exact (Below.refl _ _).drew; rintro e w5 ⟨rfl, hb5⟩)
                · have q := (show (mailT n m != 0) = true by assumption)
                  have hh := HS.out
                  go_ret; refine ⟨ret_int ?_, by repeat (first | assumption | exact Below.refl _ _ | (refine below_trans ?_ (by assumption)) | apply below_alloc | apply below_drewN | apply Below.drew)⟩
                  rw [EE.out, if_pos q] at hh
                  rw [HR2.out, ← hh, if_pos q]
                · have q := (show (mailT n m != 0) = false by assumption)
                  have hh := HS.out
                  refine ⟨⟨k + 1, hlt, by go_num, ?_, by repeat (first | assumption | exact Below.refl _ _ | (refine below_trans ?_ (by assumption)) | apply below_alloc | apply below_drewN | apply Below.drew)⟩, by simp [intOf]; omega⟩
                  rw [EE.out, if_neg (by rw [q]; simp)] at hh
                  exact hh
            · have HF := Lib.hid hf; clear hf
              go_wp2_with (go_at_call 28; refine (logFaultS_c c.Sealed _ _ _ ?_).mono ?_; exact h2.below hb; rintro e w5 ⟨rfl, hb5⟩)
              go_ret
              exact ⟨ret_int (by rw [HR2.out, ← HF.out, List.drop_of_length_le (by omega)]; rfl), by repeat (first | assumption | exact Below.refl _ _ | (refine below_trans ?_ (by assumption)) | apply below_alloc | apply below_drewN | apply Below.drew)⟩
end Go.Proofs.YtdjfehjddfbbjaaGreatDoor
