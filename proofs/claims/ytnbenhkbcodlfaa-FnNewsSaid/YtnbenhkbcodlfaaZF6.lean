/- The primary of the greatest view: the program's LeaderOf, the reference's. -/
import Derived.Test.YtnbenhkbcodlfaaZF
import Derived.Test.YtnbenhkbcodlfaaZB
set_option linter.unusedVariables false
set_option linter.unusedSimpArgs false
namespace Go.Proofs.Ytnbenhkbcodlfaa
open Go Go.RowKit Mk
/-- The leader, d of view v being the best so far. -/
def ldL : Int → Int → List SReplica → Int
  | d, _, [] => d
  | d, v, n :: ns => if leadsB n && decide (v < n.View) then ldL n.Id n.View ns else ldL d v ns
theorem ldL_drop (xs : List SReplica) (d v : Int) (k : Nat) (hk : k < xs.length) : ldL d v (xs.drop k) = if leadsB xs[k] && decide (v < xs[k].View) then ldL xs[k].Id xs[k].View (xs.drop (k + 1)) else ldL d v (xs.drop (k + 1)) := by
  rw [List.drop_eq_getElem_cons hk]; rfl
def leaderX (c : SCluster) : SIntResult :=
  if clusF c != 0 then ⟨clusF c, 0⟩ else if ldL (-1) (-1) c.Nodes < 0 then ⟨4, 0⟩ else ⟨0, ldL (-1) (-1) c.Nodes⟩
theorem clusF_id {c : SCluster} (h : clusF c = 0) (k : Nat) (hk : k < c.Nodes.length) : c.Nodes[k].Id = (k : Int) := by
  have h0 : firstI (nodeF c.Nodes.length) 0 c.Nodes = 0 := by
    unfold clusF at h
    split at h
    · cases h
    · split at h
      · exact h
      · rename_i q; simpa using q
  have h1 := firstI_zero _ _ _ h0 k _ (List.getElem?_eq_getElem hk)
  simp only [Nat.zero_add] at h1
  unfold nodeF at h1
  split at h1
  · rename_i q; rw [h1] at q; cases q
  · split at h1
    · cases h1
    · rename_i q; simp only [Bool.or_eq_true, bne_iff_ne, ne_eq, not_or, Decidable.not_not] at q; exact q.1
theorem clusF_fine {c : SCluster} (h : clusF c = 0) : ∀ n ∈ c.Nodes, Fine n := by
  intro n hn
  obtain ⟨j, hj, rfl⟩ := List.getElem_of_mem hn
  have h0 : firstI (nodeF c.Nodes.length) 0 c.Nodes = 0 := by
    unfold clusF at h
    split at h
    · cases h
    · split at h
      · exact h
      · rename_i q; simpa using q
  have := firstI_zero _ _ _ h0 j _ (List.getElem?_eq_getElem hj)
  exact repF_fine (nodeF_size (by rw [this]; rfl)).2
theorem clusF_size {c : SCluster} (h : clusF c = 0) : 1 ≤ c.Nodes.length ∧ c.Nodes.length ≤ 5 := by
  unfold clusF at h
  split at h
  · cases h
  · rename_i q
    simp only [Bool.or_eq_true, not_or, Bool.not_eq_true, Bool.not_eq_false'] at q
    have := wi_b q.1
    omega
set_option maxRecDepth 100000 in
set_option maxHeartbeats 2000000 in
theorem iLeaderOf_c (c : SCluster) (A0 : Option Addr) (c0 : Nat) (A1 : Option Addr) (c1 : Nat) (A2 : Option Addr) (c2 : Nat) (w : World) (h0 : RdS kReplica w A0 c0 c.Nodes) (h1 : RdS kMail w A1 c1 c.Mails) (h2 : RdS kEntry w A2 c2 c.Sealed) :
    Calls Try.prog 18 #[.agg #[.slice A0 c.Nodes.length c0, .slice A1 c.Mails.length c1, .slice A2 c.Sealed.length c2]] w fun e w' => e = .returned (.agg #[.int .i64 (leaderX c).Code, .int .i64 (leaderX c).Value]) ∧ Below w.heap.size w w' := by
  have hl0 := h0.le63
  cases q : (clusF c != 0) with
  | true =>
    have e : leaderX c = ⟨clusF c, 0⟩ := by unfold leaderX; rw [q, if_pos rfl]
    rw [e]
    dsimp only
    go_enter Try.func18, Try.ntmps18
    go_wp2_with (go_at_call 40; refine (clusterFault_c c _ _ _ _ _ _ _ (h0.below (by repeat (first | assumption | exact Below.refl _ _ | (refine below_trans ?_ (by assumption)) | apply below_alloc | apply below_drewN | apply Below.drew))) (h1.below (by repeat (first | assumption | exact Below.refl _ _ | (refine below_trans ?_ (by assumption)) | apply below_alloc | apply below_drewN | apply Below.drew))) (h2.below (by repeat (first | assumption | exact Below.refl _ _ | (refine below_trans ?_ (by assumption)) | apply below_alloc | apply below_drewN | apply Below.drew)))).mono ?_; rintro e w1 ⟨rfl, hb1⟩; have y1 := bcell hb1)
    exact bodyPost_ret (v := .agg #[.int .i64 (clusF c), .int .i64 0]) (by simp [results, Try.results18, go_sem, y1]) rfl ⟨rfl, by repeat (first | (with_reducible assumption) | (with_reducible exact Below.refl _ _) | (with_reducible apply below_alloc) | (with_reducible apply below_drewN) | (with_reducible apply Below.drew) | (with_reducible refine below_set ?_ (by dsimp only; omega) _) | (with_reducible refine below_trans ?_ (by assumption)))⟩
  | false =>
    have hz : clusF c = 0 := by simpa using q
    have hfi := clusF_fine hz
    have e : leaderX c = if ldL (-1) (-1) c.Nodes < 0 then ⟨4, 0⟩ else ⟨0, ldL (-1) (-1) c.Nodes⟩ := by unfold leaderX; rw [q, if_neg (by simp)]
    generalize leaderX c = X at e ⊢
    have HX := Lib.hid e
    clear e hz
    go_enter Try.func18, Try.ntmps18
    go_wp2_with (go_at_call 40; refine (clusterFault_c c _ _ _ _ _ _ _ (h0.below (by repeat (first | assumption | exact Below.refl _ _ | (refine below_trans ?_ (by assumption)) | apply below_alloc | apply below_drewN | apply Below.drew))) (h1.below (by repeat (first | assumption | exact Below.refl _ _ | (refine below_trans ?_ (by assumption)) | apply below_alloc | apply below_drewN | apply Below.drew))) (h2.below (by repeat (first | assumption | exact Below.refl _ _ | (refine below_trans ?_ (by assumption)) | apply below_alloc | apply below_drewN | apply Below.drew)))).mono ?_; rintro e w1 ⟨rfl, hb1⟩; have y1 := bcell hb1; have z1 : w.heap.size + 1 + 1 ≤ w1.heap.size := (by have := hb1.size; simp only [Deep.nblk_alloc] at this; omega); have ea : w.heap.size < w1.heap.size := (by omega); have eb : w.heap.size + 1 < w1.heap.size := (by omega))
    have bw1 : Below w.heap.size w w1 := by repeat (first | (with_reducible assumption) | (with_reducible exact Below.refl _ _) | (with_reducible apply below_alloc) | (with_reducible apply below_drewN) | (with_reducible apply Below.drew) | (with_reducible refine below_set ?_ (by dsimp only; omega) _) | (with_reducible refine below_trans ?_ (by assumption)))
    clear y1 q
    go_loopw [4, 5, 17] (fun d v i W => ∃ k : Nat, k ≤ c.Nodes.length ∧ i = .int .i64 k ∧ ∃ x y : Int, d = .int .i64 x ∧ v = .int .i64 y ∧ ldL x y (c.Nodes.drop k) = ldL (-1) (-1) c.Nodes ∧ Below w1.heap.size w1 W) (fun _ _ i _ => c.Nodes.length - (intOf i).toNat)
    case atStart => exact ⟨0, Nat.zero_le _, rfl, _, _, rfl, rfl, rfl, Below.refl _ _⟩
    case round =>
      obtain ⟨k, hk, rfl, x, y, rfl, rfl, hm, hb⟩ := hrel
      by_cases hlt : k < c.Nodes.length
      · have hlt' : (k : Int) < (c.Nodes.length : Int) := by omega
        have hd := ldL_drop c.Nodes x y k hlt
        rw [hm] at hd
        have hf := hfi _ (List.getElem_mem hlt)
        have hbw := below_trans bw1 hb
        obtain ⟨a, ea', hx⟩ := (h0.below hbw).at_ hlt
        subst ea'
        simp only [show kReplica.sz = 10 from rfl] at hx
        generalize c.Nodes[k] = n at hx hd hf
        obtain ⟨B5, d5, B7, d7, B8, d8, B9, d9, hq⟩ := atReplica hx
        obtain ⟨q0, q1, q2, q3, q4, q5, q6, q7, q8, q9, g5, g7, g8, g9⟩ := hq
        obtain ⟨⟨e1, e2⟩, _⟩ := hf
        obtain ⟨e1, e1'⟩ := wi_b e1
        obtain ⟨e2, e2'⟩ := wi_b e2
        have i0 : InReplica wr n 63 B5 d5 B7 d7 B8 d8 B9 d9 (wr.alloc (.cells #[.int .i64 n.Id, .int .i64 n.Size, .int .i64 n.View, .bool n.Normal, .int .i64 n.Last, .slice B5 n.Log.length d5, .int .i64 n.Commit, .slice B7 n.Oks.length d7, .slice B8 n.Asks.length d8, .slice B9 n.Doers.length d9] 63)) := Below.refl _ _
        have HL := Lib.hid (fun (W : World) (hb : Below (wr.alloc (.cells #[.int .i64 n.Id, .int .i64 n.Size, .int .i64 n.View, .bool n.Normal, .int .i64 n.Last, .slice B5 n.Log.length d5, .int .i64 n.Commit, .slice B7 n.Oks.length d7, .slice B8 n.Asks.length d8, .slice B9 n.Doers.length d9] 63)).heap.size (wr.alloc (.cells #[.int .i64 n.Id, .int .i64 n.Size, .int .i64 n.View, .bool n.Normal, .int .i64 n.Last, .slice B5 n.Log.length d5, .int .i64 n.Commit, .slice B7 n.Oks.length d7, .slice B8 n.Asks.length d8, .slice B9 n.Doers.length d9] 63)) W) => leadsQ_c n _ W ((i0.step hb).at g5 g7 g8 g9) e2 e1 e2')
        clear hx g5 g7 g8 g9 hm h0 h1 h2 e1 e2 e1' e2' hfi
        cases r1 : leadsB n with
        | false =>
          rw [r1, Bool.false_and, if_neg (by simp)] at hd
          rw [r1] at HL
          have HD := Lib.hid hd
          clear hd r1
          go_wp2_with fail
          refine (HL.out _ (by repeat (first | (with_reducible assumption) | (with_reducible exact Below.refl _ _) | (with_reducible apply below_alloc) | (with_reducible apply below_drewN) | (with_reducible apply Below.drew) | (with_reducible refine below_set ?_ (by dsimp only; omega) _) | (with_reducible refine below_trans ?_ (by assumption))))).mono ?_
          rintro e w2 ⟨rfl, m2, rfl⟩
          go_wp2_with fail
          exact ⟨⟨k + 1, hlt, by go_num, _, _, rfl, rfl, HD.out.symm, by repeat (first | (with_reducible assumption) | (with_reducible exact Below.refl _ _) | (with_reducible apply below_alloc) | (with_reducible apply below_drewN) | (with_reducible apply Below.drew) | (with_reducible refine below_set ?_ (by dsimp only; omega) _) | (with_reducible refine below_trans ?_ (by assumption)))⟩, by simp [intOf]; omega⟩
        | true =>
          rw [r1] at HL
          cases r2 : decide (y < n.View) with
          | false =>
            rw [r1, r2, Bool.true_and, if_neg (by simp)] at hd
            have HD := Lib.hid hd
            clear hd r1
            go_wp2_with fail
            refine (HL.out _ (by repeat (first | (with_reducible assumption) | (with_reducible exact Below.refl _ _) | (with_reducible apply below_alloc) | (with_reducible apply below_drewN) | (with_reducible apply Below.drew) | (with_reducible refine below_set ?_ (by dsimp only; omega) _) | (with_reducible refine below_trans ?_ (by assumption))))).mono ?_
            rintro e w2 ⟨rfl, m2, rfl⟩
            go_wp2_with fail
            exact ⟨⟨k + 1, hlt, by go_num, _, _, rfl, rfl, HD.out.symm, by repeat (first | (with_reducible assumption) | (with_reducible exact Below.refl _ _) | (with_reducible apply below_alloc) | (with_reducible apply below_drewN) | (with_reducible apply Below.drew) | (with_reducible refine below_set ?_ (by dsimp only; omega) _) | (with_reducible refine below_trans ?_ (by assumption)))⟩, by simp [intOf]; omega⟩
          | true =>
            rw [r1, r2, Bool.true_and, if_pos rfl] at hd
            have HD := Lib.hid hd
            have r2' := of_decide_eq_true r2
            clear hd r1
            go_wp2_with fail
            refine (HL.out _ (by repeat (first | (with_reducible assumption) | (with_reducible exact Below.refl _ _) | (with_reducible apply below_alloc) | (with_reducible apply below_drewN) | (with_reducible apply Below.drew) | (with_reducible refine below_set ?_ (by dsimp only; omega) _) | (with_reducible refine below_trans ?_ (by assumption))))).mono ?_
            rintro e w2 ⟨rfl, m2, rfl⟩
            go_wp2_with fail
            go_quiet (fail)
            go_wp2_with fail
            exact ⟨⟨k + 1, hlt, by go_num, _, _, rfl, rfl, HD.out.symm, by repeat (first | (with_reducible assumption) | (with_reducible exact Below.refl _ _) | (with_reducible apply below_alloc) | (with_reducible apply below_drewN) | (with_reducible apply Below.drew) | (with_reducible refine below_set ?_ (by dsimp only; omega) _) | (with_reducible refine below_trans ?_ (by assumption)))⟩, by simp [intOf]; omega⟩
      · have hk' : k = c.Nodes.length := by omega
        rw [hk', List.drop_length] at hm
        subst hk'
        have hm' : x = ldL (-1) (-1) c.Nodes := hm
        have hbw := below_trans bw1 hb
        have yb := bcell hb
        have y1 := bcell hb1
        have hz1 := hb.size
        have ea2 : w.heap.size < wr.heap.size := by omega
        have eb2 : w.heap.size + 1 < wr.heap.size := by omega
        clear hm
        by_cases hx : ldL (-1) (-1) c.Nodes < 0
        · have hX := HX.out
          rw [if_pos hx] at hX
          subst hX
          rw [← hm'] at hx
          clear hm' hfi HX
          go_wp2_with fail
          exact bodyPost_ret (v := .agg #[.int .i64 4, .int .i64 0]) (by simp [results, Try.results18, go_sem, yb, y1, ea, eb, ea2, eb2]) rfl ⟨rfl, by repeat (first | (with_reducible assumption) | (with_reducible exact Below.refl _ _) | (with_reducible apply below_alloc) | (with_reducible apply below_drewN) | (with_reducible apply Below.drew) | (with_reducible refine below_set ?_ (by dsimp only; omega) _) | (with_reducible refine below_trans ?_ (by assumption)))⟩
        · have hX := HX.out
          rw [if_neg hx, ← hm'] at hX
          subst hX
          rw [← hm'] at hx
          clear hm' hfi HX
          go_wp2_with fail
          exact bodyPost_ret (v := .agg #[.int .i64 0, .int .i64 x]) (by simp [results, Try.results18, go_sem, yb, y1, ea, eb, ea2, eb2]) rfl ⟨rfl, by repeat (first | (with_reducible assumption) | (with_reducible exact Below.refl _ _) | (with_reducible apply below_alloc) | (with_reducible apply below_drewN) | (with_reducible apply Below.drew) | (with_reducible refine below_set ?_ (by dsimp only; omega) _) | (with_reducible refine below_trans ?_ (by assumption)))⟩
end Go.Proofs.Ytnbenhkbcodlfaa
