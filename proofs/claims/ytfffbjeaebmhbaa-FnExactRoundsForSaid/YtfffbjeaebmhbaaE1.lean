/- Rounds: what roundsFor and the reference's l15For come to. -/
import Derived.Test.YtfffbjeaebmhbaaC1
import Derived.Test.YtfffbjeaebmhbaaA7
set_option linter.unusedVariables false
set_option linter.unusedSimpArgs false
namespace Go.Proofs.Ytfffbjeaebmhbaa
open Go Go.RowKit Mk
/-- The longest log's length, of what is behind m. -/
def mxL : Int → List SReplica → Int
  | m, [] => m
  | m, n :: ns => mxL (if m < (n.Log.length : Int) then (n.Log.length : Int) else m) ns
theorem mxL_drop (xs : List SReplica) (m : Int) (k : Nat) (hk : k < xs.length) : mxL m (xs.drop k) = mxL (if m < (xs[k].Log.length : Int) then (xs[k].Log.length : Int) else m) (xs.drop (k + 1)) := by
  rw [List.drop_eq_getElem_cons hk]; rfl
def roundsF (c : SCluster) : Int := wrap64 (20 + wrap64 (2 * mxL 0 c.Nodes))
set_option maxRecDepth 100000 in
set_option maxHeartbeats 1000000 in
theorem l15For_c (c : SCluster) (p : Addr) (w : World) (h : At kCluster w p c) :
    Calls Try.prog 82 #[.pointer (some p)] w fun e w' => e = .returned (.int .i64 (roundsF c)) ∧ w' = w := by
  have hat := h
  obtain ⟨A0, c0, A1, c1, A2, c2, hh⟩ := atCluster h
  obtain ⟨f0, f1, f2, h0, h1, h2⟩ := hh
  have hl0 := h0.le63
  go_enter Try.func82, Try.ntmps82
  go_wp2_with fail
  go_loopw [3, 4] (fun l i W => ∃ k : Nat, k ≤ c.Nodes.length ∧ i = .int .i64 k ∧ ∃ m : Int, l = .int .i64 m ∧ mxL m (c.Nodes.drop k) = mxL 0 c.Nodes ∧ W = w) (fun _ i _ => c.Nodes.length - (intOf i).toNat)
  case atStart => exact ⟨0, Nat.zero_le _, rfl, 0, rfl, rfl, rfl⟩
  case round =>
    obtain ⟨k, hk, rfl, m, rfl, hm, rfl⟩ := hrel
    by_cases hlt : k < c.Nodes.length
    · have hlt' : (k : Int) < (c.Nodes.length : Int) := by omega
      have hd := mxL_drop c.Nodes m k hlt
      have HM := Lib.hid (hd.symm.trans hm)
      clear hd hm
      obtain ⟨a, ea, hx⟩ := h0.at_ hlt
      subst ea
      simp only [show kReplica.sz = 10 from rfl] at hx
      generalize c.Nodes[k] = n at hx HM
      obtain ⟨B5, d5, B7, d7, B8, d8, B9, d9, q0, q1, q2, q3, q4, q5, q6, q7, q8, q9, hh⟩ := atReplica hx
      by_cases q : m < (n.Log.length : Int)
      · go_wp2_with fail
        have hh := HM.out
        rw [if_pos q] at hh
        exact ⟨⟨k + 1, hlt, by go_num, _, rfl, hh, by simp⟩, by simp [intOf]; omega⟩
      · go_wp2_with fail
        have hh := HM.out
        rw [if_neg q] at hh
        exact ⟨⟨k + 1, hlt, by go_num, _, rfl, hh, by simp⟩, by simp [intOf]; omega⟩
    · have hk' : k = c.Nodes.length := by omega
      rw [hk', List.drop_length] at hm
      subst hk'
      have hm' : m = mxL 0 c.Nodes := hm
      have HM := Lib.hid hm'
      clear hm hm'
      go_wp2
      go_ret; exact ⟨ret_int (by rw [HM.out]; rfl), rfl⟩
set_option maxRecDepth 100000 in
set_option maxHeartbeats 1000000 in
theorem roundsFor_c (c : SCluster) (A0 : Option Addr) (c0 : Nat) (A1 : Option Addr) (c1 : Nat) (A2 : Option Addr) (c2 : Nat) (w : World) (h0 : RdS kReplica w A0 c0 c.Nodes) (h1 : RdS kMail w A1 c1 c.Mails) (h2 : RdS kEntry w A2 c2 c.Sealed) :
    Calls Try.prog 84 #[.agg #[.slice A0 c.Nodes.length c0, .slice A1 c.Mails.length c1, .slice A2 c.Sealed.length c2]] w fun e w' => e = .returned (.int .i64 (roundsF c)) ∧ Below w.heap.size w w' := by
  have hl0 := h0.le63
  go_enter Try.func84, Try.ntmps84
  go_wp2_with fail
  go_loopw [3, 9] (fun l i W => ∃ k : Nat, k ≤ c.Nodes.length ∧ i = .int .i64 k ∧ ∃ m : Int, l = .int .i64 m ∧ mxL m (c.Nodes.drop k) = mxL 0 c.Nodes ∧ Below w.heap.size w W) (fun _ i _ => c.Nodes.length - (intOf i).toNat)
  case atStart => exact ⟨0, Nat.zero_le _, rfl, 0, rfl, rfl, by repeat (first | assumption | exact Below.refl _ _ | (refine below_trans ?_ (by assumption)) | apply below_alloc | apply below_drewN | apply Below.drew)⟩
  case round =>
    obtain ⟨k, hk, rfl, m, rfl, hm, hb⟩ := hrel
    by_cases hlt : k < c.Nodes.length
    · have hlt' : (k : Int) < (c.Nodes.length : Int) := by omega
      have hd := mxL_drop c.Nodes m k hlt
      have HM := Lib.hid (hd.symm.trans hm)
      clear hd hm
      obtain ⟨a, ea, hx⟩ := (h0.below hb).at_ hlt
      subst ea
      simp only [show kReplica.sz = 10 from rfl] at hx
      generalize c.Nodes[k] = n at hx HM
      obtain ⟨B5, d5, B7, d7, B8, d8, B9, d9, q0, q1, q2, q3, q4, q5, q6, q7, q8, q9, hh⟩ := atReplica hx
      by_cases q : m < (n.Log.length : Int)
      · have Q := Lib.hid q
        go_wp2_with (first | (go_at_call 139; refine (many_c _ _ _ _).mono ?_; rintro e w' ⟨rfl, rfl⟩))
        have hh := HM.out
        rw [if_pos Q.out] at hh
        refine ⟨⟨k + 1, hlt, by go_num, _, ?_, hh, by repeat (first | assumption | exact Below.refl _ _ | (refine below_trans ?_ (by assumption)) | apply below_alloc | apply below_drewN | apply Below.drew)⟩, by simp [intOf]; omega⟩
        have q := Q.out
        congr 1; omega
      · have Q := Lib.hid q
        go_wp2_with (first | (go_at_call 139; refine (many_c _ _ _ _).mono ?_; rintro e w' ⟨rfl, rfl⟩))
        have hh := HM.out
        rw [if_neg (by have := Q.out; omega)] at hh
        refine ⟨⟨k + 1, hlt, by go_num, _, ?_, hh, by repeat (first | assumption | exact Below.refl _ _ | (refine below_trans ?_ (by assumption)) | apply below_alloc | apply below_drewN | apply Below.drew)⟩, by simp [intOf]; omega⟩
        have q := Q.out
        congr 1; omega
    · have hk' : k = c.Nodes.length := by omega
      rw [hk', List.drop_length] at hm
      subst hk'
      have hm' : m = mxL 0 c.Nodes := hm
      have HM := Lib.hid hm'
      clear hm hm'
      go_wp2
      go_ret; exact ⟨ret_int (by rw [HM.out]; rfl), by repeat (first | assumption | exact Below.refl _ _ | (refine below_trans ?_ (by assumption)) | apply below_alloc | apply below_drewN | apply Below.drew)⟩
def roundsR (c : SCluster) : Value := if clusF c != 0 then .agg #[.int .i64 (clusF c), .int .i64 0] else .agg #[.int .i64 0, .int .i64 (roundsF c)]
set_option maxRecDepth 100000 in
set_option maxHeartbeats 1000000 in
theorem sRoundsFor_c (c : SCluster) (A0 : Option Addr) (c0 : Nat) (A1 : Option Addr) (c1 : Nat) (A2 : Option Addr) (c2 : Nat) (w : World) (h0 : RdS kReplica w A0 c0 c.Nodes) (h1 : RdS kMail w A1 c1 c.Mails) (h2 : RdS kEntry w A2 c2 c.Sealed) :
    Calls Try.prog 28 #[.agg #[.slice A0 c.Nodes.length c0, .slice A1 c.Mails.length c1, .slice A2 c.Sealed.length c2]] w fun e w' => e = .returned (roundsR c) ∧ Below w.heap.size w w' := by
  have hat := boxCluster w c 44 h0 h1 h2
  go_enter Try.func28, Try.ntmps28
  cases q : (clusF c != 0) with
  | true =>
    have e : roundsR c = .agg #[.int .i64 (clusF c), .int .i64 0] := by unfold roundsR; rw [q, if_pos rfl]
    rw [e]
    go_wp2_with (go_at_call 72; refine (l11Fault_c c _ _ (hat.below (by repeat (first | assumption | exact Below.refl _ _ | (refine below_trans ?_ (by assumption)) | apply below_alloc | apply below_drewN | apply Below.drew)))).mono ?_; rintro e w1 ⟨rfl, hb1⟩; have y1 := bcell hb1)
    exact bodyPost_ret (v := .agg #[.int .i64 (clusF c), .int .i64 0]) (by simp [results, Try.results28, go_sem, y1]) rfl ⟨rfl, by repeat (first | (with_reducible assumption) | (with_reducible exact Below.refl _ _) | (with_reducible refine below_set ?_ (by dsimp only; omega) _) | (with_reducible apply below_alloc) | (with_reducible refine below_trans ?_ (by assumption)))⟩
  | false =>
    have e : roundsR c = .agg #[.int .i64 0, .int .i64 (roundsF c)] := by unfold roundsR; rw [q, if_neg (by simp)]
    rw [e]
    go_wp2_with (first | (go_at_call 72; refine (l11Fault_c c _ _ (hat.below (by repeat (first | assumption | exact Below.refl _ _ | (refine below_trans ?_ (by assumption)) | apply below_alloc | apply below_drewN | apply Below.drew)))).mono ?_; rintro e w1 ⟨rfl, hb1⟩; have y1 := bcell hb1) | (go_at_call 82; refine (l15For_c c _ _ (hat.below (by repeat (first | assumption | exact Below.refl _ _ | (refine below_trans ?_ (by assumption)) | apply below_alloc | apply below_drewN | apply Below.drew)))).mono ?_; rintro e w2 ⟨rfl, rfl⟩))
    exact bodyPost_ret (v := .agg #[.int .i64 0, .int .i64 (roundsF c)]) (by simp [results, Try.results28, go_sem, y1]) rfl ⟨rfl, by repeat (first | (with_reducible assumption) | (with_reducible exact Below.refl _ _) | (with_reducible refine below_set ?_ (by dsimp only; omega) _) | (with_reducible apply below_alloc) | (with_reducible refine below_trans ?_ (by assumption)))⟩
end Go.Proofs.Ytfffbjeaebmhbaa
