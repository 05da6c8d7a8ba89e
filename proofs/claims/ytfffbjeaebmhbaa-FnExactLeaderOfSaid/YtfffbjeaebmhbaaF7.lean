/- The primary of the greatest view: the reference's LeaderOf. -/
import Derived.Test.YtfffbjeaebmhbaaF6
set_option linter.unusedVariables false
set_option linter.unusedSimpArgs false
namespace Go.Proofs.Ytfffbjeaebmhbaa
open Go Go.RowKit Mk
def BestIs (c : SCluster) (x y : Int) : Prop := (x = -1 ∧ y = -1) ∨ (0 ≤ x ∧ ∃ n, c.Nodes[x.toNat]? = some n ∧ n.View = y)
set_option maxRecDepth 100000 in
set_option maxHeartbeats 4000000 in
theorem sLeaderOf_c (c : SCluster) (A0 : Option Addr) (c0 : Nat) (A1 : Option Addr) (c1 : Nat) (A2 : Option Addr) (c2 : Nat) (w : World) (h0 : RdS kReplica w A0 c0 c.Nodes) (h1 : RdS kMail w A1 c1 c.Mails) (h2 : RdS kEntry w A2 c2 c.Sealed) :
    Calls Try.prog 31 #[.agg #[.slice A0 c.Nodes.length c0, .slice A1 c.Mails.length c1, .slice A2 c.Sealed.length c2]] w fun e w' => e = .returned (.agg #[.int .i64 (leaderX c).Code, .int .i64 (leaderX c).Value]) ∧ Below w.heap.size w w' := by
  have hl0 := h0.le63
  have hat := boxCluster w c 44 h0 h1 h2
  cases q : (clusF c != 0) with
  | true =>
    have e : leaderX c = ⟨clusF c, 0⟩ := by unfold leaderX; rw [q, if_pos rfl]
    rw [e]
    dsimp only
    go_enter Try.func31, Try.ntmps31
    go_wp2_with (go_at_call 72; refine (l11Fault_c c _ _ (hat.below (by repeat (first | assumption | exact Below.refl _ _ | (refine below_trans ?_ (by assumption)) | apply below_alloc | apply below_drewN | apply Below.drew)))).mono ?_; rintro e w1 ⟨rfl, hb1⟩; have y1 := bcell hb1)
    exact bodyPost_ret (v := .agg #[.int .i64 (clusF c), .int .i64 0]) (by simp [results, Try.results31, go_sem, y1]) rfl ⟨rfl, by repeat (first | (with_reducible assumption) | (with_reducible exact Below.refl _ _) | (with_reducible apply below_alloc) | (with_reducible apply below_drewN) | (with_reducible apply Below.drew) | (with_reducible refine below_set ?_ (by dsimp only; omega) _) | (with_reducible refine below_trans ?_ (by assumption)))⟩
  | false =>
    have hz : clusF c = 0 := by simpa using q
    have hfi := clusF_fine hz
    have hid := clusF_id hz
    have hsz := clusF_size hz
    have e : leaderX c = if ldL (-1) (-1) c.Nodes < 0 then ⟨4, 0⟩ else ⟨0, ldL (-1) (-1) c.Nodes⟩ := by unfold leaderX; rw [q, if_neg (by simp)]
    generalize leaderX c = X at e ⊢
    have HX := Lib.hid e
    clear e hz
    go_enter Try.func31, Try.ntmps31
    go_wp2_with (go_at_call 72; refine (l11Fault_c c _ _ (hat.below (by repeat (first | assumption | exact Below.refl _ _ | (refine below_trans ?_ (by assumption)) | apply below_alloc | apply below_drewN | apply Below.drew)))).mono ?_; rintro e w1 ⟨rfl, hb1⟩; have y1 := bcell hb1; have z1 : w.heap.size + 1 + 1 ≤ w1.heap.size := (by have := hb1.size; simp only [Deep.nblk_alloc] at this; omega); have ea : w.heap.size < w1.heap.size := (by omega); have eb : w.heap.size + 1 < w1.heap.size := (by omega))
    have i1 : InCluster w c 44 A0 c0 A1 c1 A2 c2 w1 := (by unfold InCluster; repeat (first | (with_reducible assumption) | (with_reducible exact Below.refl _ _) | (with_reducible apply below_alloc) | (with_reducible apply below_drewN) | (with_reducible apply Below.drew) | (with_reducible refine below_set ?_ (by dsimp only; omega) _) | (with_reducible refine below_trans ?_ (by assumption))))
    have bw1 : Below w.heap.size w w1 := by repeat (first | (with_reducible assumption) | (with_reducible exact Below.refl _ _) | (with_reducible apply below_alloc) | (with_reducible apply below_drewN) | (with_reducible apply Below.drew) | (with_reducible refine below_set ?_ (by dsimp only; omega) _) | (with_reducible refine below_trans ?_ (by assumption)))
    obtain ⟨s0, s1, s2⟩ := i1.seen
    clear y1 q
    have k0 := h0.below bw1
    go_loopw [4, 5] (fun d i W => ∃ k : Nat, k ≤ c.Nodes.length ∧ i = .int .i64 k ∧ ∃ x y : Int, d = .int .i64 x ∧ ldL x y (c.Nodes.drop k) = ldL (-1) (-1) c.Nodes ∧ BestIs c x y ∧ ∃ m, W = w1.drewN m) (fun _ i _ => c.Nodes.length - (intOf i).toNat)
    case atStart => exact ⟨0, Nat.zero_le _, rfl, _, -1, rfl, rfl, .inl ⟨rfl, rfl⟩, 0, rfl⟩
    case round =>
      obtain ⟨k, hk, rfl, x, y, rfl, hm, hbest, m, rfl⟩ := hrel
      by_cases hlt : k < c.Nodes.length
      · have hlt' : (k : Int) < (c.Nodes.length : Int) := by omega
        have hd := ldL_drop c.Nodes x y k hlt
        rw [hm] at hd
        have hf := hfi _ (List.getElem_mem hlt)
        have hi := hid k hlt
        have hkk := List.getElem?_eq_getElem hlt
        obtain ⟨a, ea', hx⟩ := k0.at_ hlt
        subst ea'
        simp only [show kReplica.sz = 10 from rfl] at hx
        generalize c.Nodes[k] = n at hx hd hf hi hkk
        obtain ⟨⟨e1, e2⟩, _⟩ := hf
        obtain ⟨e1, e1'⟩ := wi_b e1
        obtain ⟨e2, e2'⟩ := wi_b e2
        have HP := Lib.hid (fun (W : World) (hb : Below w1.heap.size w1 W) => l9Primary_c n _ W (hx.below hb) e2 e1)
        obtain ⟨B5, d5, B7, d7, B8, d8, B9, d9, hq⟩ := atReplica hx
        obtain ⟨q0, q1, q2, q3, q4, q5, q6, q7, q8, q9, g5, g7, g8, g9⟩ := hq
        have HB := Lib.hid hbest
        have HI := Lib.hid hi
        have HK := Lib.hid hkk
        have HN := Lib.hid e2
        clear hx g5 g7 g8 g9 hm h0 h1 h2 e1 e2 e1' e2' hfi hid hi hbest hat s1 s2 hkk
        cases r1 : n.Normal with
        | false =>
          have hl : leadsB n = false := by unfold leadsB; rw [r1]; rfl
          rw [hl, Bool.false_and, if_neg (by simp)] at hd
          have HD := Lib.hid hd
          clear hd hl
          go_wp2_with fail
          go_quiet (fail)
          go_wp2_with fail
          exact ⟨⟨k + 1, hlt, by go_num, _, _, rfl, HD.out.symm, HB.out, by first | exact ⟨_, rfl⟩ | (simp only [World.drewN_drewN]; exact ⟨_, rfl⟩)⟩, by simp [intOf]; omega⟩
        | true =>
          cases r2 : isPrim n with
          | false =>
            have hl : leadsB n = false := by unfold leadsB; rw [r1, r2]; rfl
            rw [hl, Bool.false_and, if_neg (by simp)] at hd
            have HD := Lib.hid hd
            rw [r2] at HP
            clear hd hl r2
            go_wp2_with fail
            go_quiet ((go_at_call 85; (first | (with_reducible refine Calls.quiet_of (HP.out _ ?_)) | (with_reducible refine quiet_sum (HP.out _ ?_))); repeat (first | (with_reducible assumption) | (with_reducible exact Below.refl _ _) | (with_reducible apply below_alloc) | (with_reducible apply below_drewN) | (with_reducible apply Below.drew) | (with_reducible refine below_set ?_ (by dsimp only; omega) _) | (with_reducible refine below_trans ?_ (by assumption)))))
            go_wp2_with fail
            exact ⟨⟨k + 1, hlt, by go_num, _, _, rfl, HD.out.symm, HB.out, by first | exact ⟨_, rfl⟩ | (simp only [World.drewN_drewN]; exact ⟨_, rfl⟩)⟩, by simp [intOf]; omega⟩
          | true =>
            have hl : leadsB n = true := by unfold leadsB; rw [r1, r2]; rfl
            rw [hl, Bool.true_and] at hd
            rw [r2] at HP
            clear hl r2
            rcases HB.out with ⟨rfl, rfl⟩ | ⟨hx0, n2, hn2, hv⟩
            · rw [if_pos (by have := HN.out; simp; omega)] at hd
              have HD := Lib.hid hd
              clear hd HB
              go_wp2_with fail
              go_quiet ((go_at_call 85; (first | (with_reducible refine Calls.quiet_of (HP.out _ ?_)) | (with_reducible refine quiet_sum (HP.out _ ?_))); repeat (first | (with_reducible assumption) | (with_reducible exact Below.refl _ _) | (with_reducible apply below_alloc) | (with_reducible apply below_drewN) | (with_reducible apply Below.drew) | (with_reducible refine below_set ?_ (by dsimp only; omega) _) | (with_reducible refine below_trans ?_ (by assumption)))))
              go_wp2_with fail
              exact ⟨⟨k + 1, hlt, by go_num, k, n.View, rfl, by rw [HD.out, HI.out], .inr ⟨by omega, n, by simpa using HK.out, rfl⟩, by first | exact ⟨_, rfl⟩ | (simp only [World.drewN_drewN]; exact ⟨_, rfl⟩)⟩, by simp [intOf]; omega⟩
            · obtain ⟨xn, rfl⟩ := Int.eq_ofNat_of_zero_le hx0
              rw [Int.toNat_natCast] at hn2
              have hxl := (List.getElem?_eq_some_iff.1 hn2).1
              obtain ⟨a2, ea2, hx2⟩ := k0.at_ hxl
              cases ea2
              rw [(List.getElem?_eq_some_iff.1 hn2).2] at hx2
              simp only [show kReplica.sz = 10 from rfl] at hx2
              obtain ⟨C5, z5, C7, z7, C8, z8, C9, z9, hq2⟩ := atReplica hx2
              obtain ⟨r0, r1, r2, r3, r4, r5, r6, r7, r8, r9, t5, t7, t8, t9⟩ := hq2
              rw [hv] at r2
              have hxs : (xn : Int) < (c.Nodes.length : Int) := by omega
              have hnx : ¬ (xn : Int) < 0 := by omega
              clear hn2 hv hx2 t5 t7 t8 t9 r0 r1 r3 r4 r5 r6 r7 r8 r9 k0
              cases r2 : decide (y < n.View) with
              | false =>
                rw [r2, if_neg (by simp)] at hd
                have HD := Lib.hid hd
                clear hd
                go_wp2_with fail
                go_quiet ((go_at_call 85; (first | (with_reducible refine Calls.quiet_of (HP.out _ ?_)) | (with_reducible refine quiet_sum (HP.out _ ?_))); repeat (first | (with_reducible assumption) | (with_reducible exact Below.refl _ _) | (with_reducible apply below_alloc) | (with_reducible apply below_drewN) | (with_reducible apply Below.drew) | (with_reducible refine below_set ?_ (by dsimp only; omega) _) | (with_reducible refine below_trans ?_ (by assumption)))))
                go_wp2_with fail
                exact ⟨⟨k + 1, hlt, by go_num, _, _, rfl, HD.out.symm, HB.out, by first | exact ⟨_, rfl⟩ | (simp only [World.drewN_drewN]; exact ⟨_, rfl⟩)⟩, by simp [intOf]; omega⟩
              | true =>
                have r2' := of_decide_eq_true r2
                rw [r2, if_pos rfl] at hd
                have HD := Lib.hid hd
                clear hd
                go_wp2_with fail
                go_quiet ((go_at_call 85; (first | (with_reducible refine Calls.quiet_of (HP.out _ ?_)) | (with_reducible refine quiet_sum (HP.out _ ?_))); repeat (first | (with_reducible assumption) | (with_reducible exact Below.refl _ _) | (with_reducible apply below_alloc) | (with_reducible apply below_drewN) | (with_reducible apply Below.drew) | (with_reducible refine below_set ?_ (by dsimp only; omega) _) | (with_reducible refine below_trans ?_ (by assumption)))))
                go_wp2_with fail
                exact ⟨⟨k + 1, hlt, by go_num, k, n.View, rfl, by rw [HD.out, HI.out], .inr ⟨by omega, n, by simpa using HK.out, rfl⟩, by first | exact ⟨_, rfl⟩ | (simp only [World.drewN_drewN]; exact ⟨_, rfl⟩)⟩, by simp [intOf]; omega⟩
      · have hk' : k = c.Nodes.length := by omega
        rw [hk', List.drop_length] at hm
        subst hk'
        have hm' : x = ldL (-1) (-1) c.Nodes := hm
        have y1 := bcell hb1
        clear hm hbest
        by_cases hx : ldL (-1) (-1) c.Nodes < 0
        · have hX := HX.out
          rw [if_pos hx] at hX
          subst hX
          rw [← hm'] at hx
          clear hm' hfi HX hid
          go_wp2_with fail
          exact bodyPost_ret (v := .agg #[.int .i64 4, .int .i64 0]) (by simp [results, Try.results31, go_sem, y1, ea, eb]) rfl ⟨rfl, by repeat (first | (with_reducible assumption) | (with_reducible exact Below.refl _ _) | (with_reducible apply below_alloc) | (with_reducible apply below_drewN) | (with_reducible apply Below.drew) | (with_reducible refine below_set ?_ (by dsimp only; omega) _) | (with_reducible refine below_trans ?_ (by assumption)))⟩
        · have hX := HX.out
          rw [if_neg hx, ← hm'] at hX
          subst hX
          rw [← hm'] at hx
          clear hm' hfi HX hid
          go_wp2_with fail
          exact bodyPost_ret (v := .agg #[.int .i64 0, .int .i64 x]) (by simp [results, Try.results31, go_sem, y1, ea, eb]) rfl ⟨rfl, by repeat (first | (with_reducible assumption) | (with_reducible exact Below.refl _ _) | (with_reducible apply below_alloc) | (with_reducible apply below_drewN) | (with_reducible apply Below.drew) | (with_reducible refine below_set ?_ (by dsimp only; omega) _) | (with_reducible refine below_trans ?_ (by assumption)))⟩
end Go.Proofs.Ytfffbjeaebmhbaa
