/- The greatest view; whether its primary has all that is sealed: the program's lastView and primariesHave, the reference's l13Have. -/
import Derived.Test.YtjljnkbiakadeaaF3
import Derived.Test.YtjljnkbiakadeaaB1
set_option linter.unusedVariables false
set_option linter.unusedSimpArgs false
namespace Go.Proofs.Ytjljnkbiakadeaa
open Go Go.RowKit Mk
/-- The greatest view of the normal ones, m being one. -/
def lvL : Int → List SReplica → Int
  | m, [] => m
  | m, n :: ns => lvL (if n.Normal then max m n.View else m) ns
theorem lvL_drop (xs : List SReplica) (m : Int) (k : Nat) (hk : k < xs.length) : lvL m (xs.drop k) = lvL (if xs[k].Normal then max m xs[k].View else m) (xs.drop (k + 1)) := by
  rw [List.drop_eq_getElem_cons hk]; rfl
theorem isPrimaryQ_c (n : SReplica) (p : Addr) (w : World) (h : At kReplica w p n) (h0 : 0 ≤ n.View) (h1 : 1 ≤ n.Size) (h2 : n.View ≤ 200) :
    Calls Try.prog 84 #[.pointer (some p)] w fun e w' => e = .returned (.bool (isPrim n)) ∧ ∃ m, w' = w.drewN m := by
  obtain ⟨A5, c5, A7, c7, A8, c8, A9, c9, f0, f1, f2, f3, f4, f5, f6, f7, f8, f9, h⟩ := atReplica h
  clear f3 f4 f5 f6 f7 f8 f9 h
  go_enter Try.func84, Try.ntmps84
  go_wp2_with fail
  go_quiet ((go_at_call 124; (with_reducible refine Calls.quiet_of_same ((primary_c _ _ _ h0 h1 h2).mono fun e w' ⟨he, hw⟩ => ⟨he, hw.symm⟩))))
  go_wp2
  go_ret; exact ⟨rfl, _, rfl⟩
theorem leadsQ_c (n : SReplica) (p : Addr) (w : World) (h : At kReplica w p n) (h0 : 0 ≤ n.View) (h1 : 1 ≤ n.Size) (h2 : n.View ≤ 200) :
    Calls Try.prog 51 #[.pointer (some p)] w fun e w' => e = .returned (.bool (leadsB n)) ∧ ∃ m, w' = w.drewN m := by
  obtain ⟨A5, c5, A7, c7, A8, c8, A9, c9, f0, f1, f2, f3, f4, f5, f6, f7, f8, f9, hh⟩ := atReplica h
  clear f0 f1 f2 f4 f5 f6 f7 f8 f9 hh
  go_enter Try.func51, Try.ntmps51
  go_wp2_with (go_at_call 84; (with_reducible refine (isPrimaryQ_c n p _ h h0 h1 h2).mono ?_); rintro e w' ⟨rfl, m, rfl⟩)
  · go_ret; exact ⟨by simp_all [leadsB], m, rfl⟩
  · go_ret; exact ⟨by simp_all [leadsB], 0, rfl⟩
set_option maxRecDepth 100000 in
set_option maxHeartbeats 1000000 in
theorem lastView_c (c : SCluster) (p : Addr) (w : World) (h : At kCluster w p c) :
    Calls Try.prog 103 #[.pointer (some p)] w fun e w' => e = .returned (.int .i64 (lvL (-1) c.Nodes)) ∧ Below w.heap.size w w' := by
  obtain ⟨A0, c0, A1, c1, A2, c2, hh⟩ := atCluster h
  obtain ⟨f0, f1, f2, h0, h1, h2⟩ := hh
  have hl0 := h0.le63
  clear h h1 h2 f1 f2
  go_enter Try.func103, Try.ntmps103
  go_wp2_with fail
  clear f0
  go_loopw [3, 11] (fun l i W => ∃ k : Nat, k ≤ c.Nodes.length ∧ i = .int .i64 k ∧ ∃ m : Int, l = .int .i64 m ∧ lvL m (c.Nodes.drop k) = lvL (-1) c.Nodes ∧ Below w.heap.size w W) (fun _ i _ => c.Nodes.length - (intOf i).toNat)
  case atStart => exact ⟨0, Nat.zero_le _, rfl, _, rfl, rfl, by repeat (first | (with_reducible assumption) | (with_reducible exact Below.refl _ _) | (with_reducible apply below_alloc) | (with_reducible apply below_drewN) | (with_reducible apply Below.drew) | (with_reducible refine below_set ?_ (by dsimp only; omega) _) | (with_reducible refine below_trans ?_ (by assumption)))⟩
  case round =>
    obtain ⟨k, hk, rfl, m, rfl, hm, hb⟩ := hrel
    by_cases hlt : k < c.Nodes.length
    · have hlt' : (k : Int) < (c.Nodes.length : Int) := by omega
      have hd := lvL_drop c.Nodes m k hlt
      obtain ⟨a, ea, hx⟩ := (h0.below hb).at_ hlt
      subst ea
      simp only [show kReplica.sz = 10 from rfl] at hx
      generalize c.Nodes[k] = n at hx hd
      obtain ⟨B5, d5, B7, d7, B8, d8, B9, d9, hq⟩ := atReplica hx
      obtain ⟨q0, q1, q2, q3, q4, q5, q6, q7, q8, q9, g5, g7, g8, g9⟩ := hq
      clear hx g5 g7 g8 g9
      cases hN : n.Normal with
      | true =>
        rw [hN, if_pos rfl] at hd
        have HM := Lib.hid (hd.symm.trans hm)
        clear hd hm
        go_wp2_with fail
        exact ⟨⟨k + 1, hlt, by go_num, _, by first | rfl | (congr 1; omega), HM.out, by repeat (first | (with_reducible assumption) | (with_reducible exact Below.refl _ _) | (with_reducible apply below_alloc) | (with_reducible apply below_drewN) | (with_reducible apply Below.drew) | (with_reducible refine below_set ?_ (by dsimp only; omega) _) | (with_reducible refine below_trans ?_ (by assumption)))⟩, by simp [intOf]; omega⟩
      | false =>
        rw [hN, if_neg (by simp)] at hd
        have HM := Lib.hid (hd.symm.trans hm)
        clear hd hm
        go_wp2_with fail
        exact ⟨⟨k + 1, hlt, by go_num, _, rfl, HM.out, by repeat (first | (with_reducible assumption) | (with_reducible exact Below.refl _ _) | (with_reducible apply below_alloc) | (with_reducible apply below_drewN) | (with_reducible apply Below.drew) | (with_reducible refine below_set ?_ (by dsimp only; omega) _) | (with_reducible refine below_trans ?_ (by assumption)))⟩, by simp [intOf]; omega⟩
    · have hk' : k = c.Nodes.length := by omega
      rw [hk', List.drop_length] at hm
      subst hk'
      have HM := Lib.hid (show m = lvL (-1) c.Nodes from hm)
      clear hm
      go_wp2
      go_ret; exact ⟨ret_int HM.out, by repeat (first | (with_reducible assumption) | (with_reducible exact Below.refl _ _) | (with_reducible apply below_alloc) | (with_reducible apply below_drewN) | (with_reducible apply Below.drew) | (with_reducible refine below_set ?_ (by dsimp only; omega) _) | (with_reducible refine below_trans ?_ (by assumption)))⟩
/-- A primary of view v hasn't all that is sealed. -/
def lacks (c : SCluster) (v : Int) (n : SReplica) : Bool := leadsB n && (n.View == v && !isB c.Sealed n.Log)
def haveB (c : SCluster) : Bool := !(c.Nodes.any (lacks c (lvL (-1) c.Nodes)))
/-- What the faultless nodes are like: sizes and views. -/
def Fine (n : SReplica) : Prop := (wi n.Size 1 5 = true ∧ wi n.View 0 200 = true) ∧ wi n.Commit 0 n.Log.length = true
theorem repF_fine {n : SReplica} (h : (repF n != 0) = false) : Fine n := by
  unfold repF at h
  split at h
  · cases h
  · rename_i q
    split at h
    · rename_i h3; rw [h3] at h; cases h
    · split at h
      · cases h
      · rename_i q2
        simp only [Bool.not_eq_true', Bool.not_eq_false, Bool.and_eq_true] at q q2
        exact ⟨⟨q.1.1.1, q.1.2⟩, q2⟩
set_option maxRecDepth 100000 in
set_option maxHeartbeats 1000000 in
theorem have1_c (c : SCluster) (p q r : Addr) (v : Int) (n : SReplica) (A5 : Option Addr) (c5 : Nat) (A7 : Option Addr) (c7 : Nat) (A8 : Option Addr) (c8 : Nat) (A9 : Option Addr) (c9 : Nat) (w : World) (hr : w.cell? r = some (.int .i64 v))
    (hq : w.cell? q = some (.pointer (some p))) (hp : At kCluster w p c) (h5 : RdS kEntry w A5 c5 n.Log) (h7 : RdS kInt w A7 c7 n.Oks) (h8 : RdS kBool w A8 c8 n.Asks) (h9 : RdS kDoer w A9 c9 n.Doers) (hc : Fine n) :
    Calls Try.prog 104 #[.agg #[.int .i64 n.Id, .int .i64 n.Size, .int .i64 n.View, .bool n.Normal, .int .i64 n.Last, .slice A5 n.Log.length c5, .int .i64 n.Commit, .slice A7 n.Oks.length c7, .slice A8 n.Asks.length c8, .slice A9 n.Doers.length c9], .pointer (some r), .pointer (some q)] w fun e w' => e = .returned (.bool (lacks c v n)) ∧ Below w.heap.size w w' := by
  obtain ⟨⟨e1, e2⟩, _⟩ := hc
  obtain ⟨e1, e1'⟩ := wi_b e1
  obtain ⟨e2, e2'⟩ := wi_b e2
  obtain ⟨D0, d0, D1, d1, D2, d2, hh⟩ := atCluster hp
  obtain ⟨f0, f1, f2, g0, g1, g2⟩ := hh
  have i0 : InReplica w n 78 A5 c5 A7 c7 A8 c8 A9 c9 (w.alloc (.cells #[.int .i64 n.Id, .int .i64 n.Size, .int .i64 n.View, .bool n.Normal, .int .i64 n.Last, .slice A5 n.Log.length c5, .int .i64 n.Commit, .slice A7 n.Oks.length c7, .slice A8 n.Asks.length c8, .slice A9 n.Doers.length c9] 78)) := Below.refl _ _
  have HL := Lib.hid (fun (W : World) (hb : Below (w.alloc (.cells #[.int .i64 n.Id, .int .i64 n.Size, .int .i64 n.View, .bool n.Normal, .int .i64 n.Last, .slice A5 n.Log.length c5, .int .i64 n.Commit, .slice A7 n.Oks.length c7, .slice A8 n.Asks.length c8, .slice A9 n.Doers.length c9] 78)).heap.size (w.alloc (.cells #[.int .i64 n.Id, .int .i64 n.Size, .int .i64 n.View, .bool n.Normal, .int .i64 n.Last, .slice A5 n.Log.length c5, .int .i64 n.Commit, .slice A7 n.Oks.length c7, .slice A8 n.Asks.length c8, .slice A9 n.Doers.length c9] 78)) W) => leadsQ_c n _ W ((i0.step hb).at h5 h7 h8 h9) e2 e1 e2')
  have HI := Lib.hid (fun (W : World) (hb : Below w.heap.size w W) => isBeg_c c.Sealed n.Log D2 d2 A5 c5 W (g2.below hb) (h5.below hb))
  have hbx : Below w.heap.size w (w.alloc (.cells #[.int .i64 n.Id, .int .i64 n.Size, .int .i64 n.View, .bool n.Normal, .int .i64 n.Last, .slice A5 n.Log.length c5, .int .i64 n.Commit, .slice A7 n.Oks.length c7, .slice A8 n.Asks.length c8, .slice A9 n.Doers.length c9] 78)) := below_alloc (Below.refl _ _) _
  have k0 := cell_alloc hr (.cells #[.int .i64 n.Id, .int .i64 n.Size, .int .i64 n.View, .bool n.Normal, .int .i64 n.Last, .slice A5 n.Log.length c5, .int .i64 n.Commit, .slice A7 n.Oks.length c7, .slice A8 n.Asks.length c8, .slice A9 n.Doers.length c9] 78)
  have k1 := cell_alloc hq (.cells #[.int .i64 n.Id, .int .i64 n.Size, .int .i64 n.View, .bool n.Normal, .int .i64 n.Last, .slice A5 n.Log.length c5, .int .i64 n.Commit, .slice A7 n.Oks.length c7, .slice A8 n.Asks.length c8, .slice A9 n.Doers.length c9] 78)
  have k2 := cell_alloc f2 (.cells #[.int .i64 n.Id, .int .i64 n.Size, .int .i64 n.View, .bool n.Normal, .int .i64 n.Last, .slice A5 n.Log.length c5, .int .i64 n.Commit, .slice A7 n.Oks.length c7, .slice A8 n.Asks.length c8, .slice A9 n.Doers.length c9] 78)
  clear hr hq f0 f1 f2
  cases r1 : leadsB n with
  | false =>
    rw [r1] at HL
    have HR := Lib.hid (show lacks c v n = false by unfold lacks; rw [r1]; rfl)
    clear r1 h5 h7 h8 h9 g0 g1 g2 hp
    go_enter Try.func104, Try.ntmps104
    go_wp2_with fail
    go_quiet ((go_at_call 51; (first | (with_reducible refine Calls.quiet_of (HL.out _ ?_)) | (with_reducible refine quiet_sum (HL.out _ ?_))); repeat (first | (with_reducible assumption) | (with_reducible exact Below.refl _ _) | (with_reducible apply below_alloc) | (with_reducible apply below_drewN) | (with_reducible apply Below.drew) | (with_reducible refine below_set ?_ (by dsimp only; omega) _) | (with_reducible refine below_trans ?_ (by assumption)))))
    go_wp2_with fail
    go_ret
    exact ⟨ret_bool HR.out.symm, by repeat (first | (with_reducible assumption) | (with_reducible exact Below.refl _ _) | (with_reducible apply below_alloc) | (with_reducible apply below_drewN) | (with_reducible apply Below.drew) | (with_reducible refine below_set ?_ (by dsimp only; omega) _) | (with_reducible refine below_trans ?_ (by assumption)))⟩
  | true =>
    rw [r1] at HL
    cases r2 : (n.View == v) with
    | false =>
      have HR := Lib.hid (show lacks c v n = false by unfold lacks; rw [r1, r2]; rfl)
      clear r1 h5 h7 h8 h9 g0 g1 g2 hp
      go_enter Try.func104, Try.ntmps104
      go_wp2_with fail
      go_quiet ((go_at_call 51; (first | (with_reducible refine Calls.quiet_of (HL.out _ ?_)) | (with_reducible refine quiet_sum (HL.out _ ?_))); repeat (first | (with_reducible assumption) | (with_reducible exact Below.refl _ _) | (with_reducible apply below_alloc) | (with_reducible apply below_drewN) | (with_reducible apply Below.drew) | (with_reducible refine below_set ?_ (by dsimp only; omega) _) | (with_reducible refine below_trans ?_ (by assumption)))))
      go_wp2_with fail
      go_ret
      exact ⟨ret_bool HR.out.symm, by repeat (first | (with_reducible assumption) | (with_reducible exact Below.refl _ _) | (with_reducible apply below_alloc) | (with_reducible apply below_drewN) | (with_reducible apply Below.drew) | (with_reducible refine below_set ?_ (by dsimp only; omega) _) | (with_reducible refine below_trans ?_ (by assumption)))⟩
    | true =>
      have HR := Lib.hid (show lacks c v n = !isB c.Sealed n.Log by unfold lacks; rw [r1, r2]; rfl)
      clear r1 h5 h7 h8 h9 g0 g1 g2 hp
      go_enter Try.func104, Try.ntmps104
      go_wp2_with fail
      go_quiet ((first | (go_at_call 51; (first | (with_reducible refine Calls.quiet_of (HL.out _ ?_)) | (with_reducible refine quiet_sum (HL.out _ ?_))); repeat (first | (with_reducible assumption) | (with_reducible exact Below.refl _ _) | (with_reducible apply below_alloc) | (with_reducible apply below_drewN) | (with_reducible apply Below.drew) | (with_reducible refine below_set ?_ (by dsimp only; omega) _) | (with_reducible refine below_trans ?_ (by assumption)))) | (go_at_call 102; (first | (with_reducible refine Calls.quiet_of (HI.out _ ?_)) | (with_reducible refine quiet_sum (HI.out _ ?_))); repeat (first | (with_reducible assumption) | (with_reducible exact Below.refl _ _) | (with_reducible apply below_alloc) | (with_reducible apply below_drewN) | (with_reducible apply Below.drew) | (with_reducible refine below_set ?_ (by dsimp only; omega) _) | (with_reducible refine below_trans ?_ (by assumption))))))
      go_wp2_with fail
      go_ret
      exact ⟨ret_bool HR.out.symm, by repeat (first | (with_reducible assumption) | (with_reducible exact Below.refl _ _) | (with_reducible apply below_alloc) | (with_reducible apply below_drewN) | (with_reducible apply Below.drew) | (with_reducible refine below_set ?_ (by dsimp only; omega) _) | (with_reducible refine below_trans ?_ (by assumption)))⟩
set_option maxRecDepth 100000 in
set_option maxHeartbeats 1000000 in
theorem primariesHave_c (c : SCluster) (p : Addr) (w : World) (h : At kCluster w p c) (hcs : ∀ n ∈ c.Nodes, Fine n) :
    Calls Try.prog 60 #[.pointer (some p)] w fun e w' => e = .returned (.bool (haveB c)) ∧ Below w.heap.size w w' := by
  obtain ⟨A0, c0, A1, c1, A2, c2, hh⟩ := atCluster h
  obtain ⟨f0, f1, f2, h0, h1, h2⟩ := hh
  have HV := Lib.hid (fun (W : World) (hb : Below w.heap.size w W) => lastView_c c p W (h.below hb))
  go_enter Try.func60, Try.ntmps60
  generalize hv : lvL (-1) c.Nodes = v at HV
  have HVV := Lib.hid hv
  clear hv
  go_wp2_with fail
  refine (HV.out _ ?_).mono ?_
  · repeat (first | (with_reducible assumption) | (with_reducible exact Below.refl _ _) | (with_reducible apply below_alloc) | (with_reducible apply below_drewN) | (with_reducible apply Below.drew) | (with_reducible refine below_set ?_ (by dsimp only; omega) _) | (with_reducible refine below_trans ?_ (by assumption)))
  rintro e w1 ⟨rfl, hb1⟩
  have y1 := bcell hb1
  have z1 : w.heap.size < w1.heap.size := (by have := hb1.size; simp only [Deep.nblk_alloc] at this; omega)
  have f0' := cell_alloc (cell_below (show Below w.heap.size w w1 by repeat (first | (with_reducible assumption) | (with_reducible exact Below.refl _ _) | (with_reducible apply below_alloc) | (with_reducible apply below_drewN) | (with_reducible apply Below.drew) | (with_reducible refine below_set ?_ (by dsimp only; omega) _) | (with_reducible refine below_trans ?_ (by assumption)))) f0) (.cells #[.int .i64 v] 2)
  go_wp2_with fail
  have hb : Below w.heap.size w w1 := by repeat (first | (with_reducible assumption) | (with_reducible exact Below.refl _ _) | (with_reducible apply below_alloc) | (with_reducible apply below_drewN) | (with_reducible apply Below.drew) | (with_reducible refine below_set ?_ (by dsimp only; omega) _) | (with_reducible refine below_trans ?_ (by assumption)))
  refine (containsFunc_rep 104 #[.pointer (some ⟨w1.heap.size, 0, none⟩), .pointer (some ⟨w.heap.size, 0, none⟩)] (Go.Proofs.enters_of Try.func104 (by kernel_rfl) rfl) (lacks c v) c.Nodes A0 c0 _ ?_ ?_).mono ?_
  · exact h0.below (by repeat (first | (with_reducible assumption) | (with_reducible exact Below.refl _ _) | (with_reducible apply below_alloc) | (with_reducible apply below_drewN) | (with_reducible apply Below.drew) | (with_reducible refine below_set ?_ (by dsimp only; omega) _) | (with_reducible refine below_trans ?_ (by assumption))))
  · intro k hk W cs hW hr
    obtain ⟨B5, d5, B7, d7, B8, d8, B9, d9, rfl, g5, g7, g8, g9⟩ := kReplica_open hr
    have l0 := (lies_alloc w #[.pointer (some p)] 92).c0
    have l1 := cell_below hb1 l0
    have bW := below_trans (below_alloc (Below.refl _ _) _) hW
    refine have1_c c p ⟨w.heap.size, 0, none⟩ ⟨w1.heap.size, 0, none⟩ v _ B5 d5 B7 d7 B8 d8 B9 d9 W ?_ ?_ (h.below (below_trans hb bW)) g5 g7 g8 g9 (hcs _ (List.getElem_mem hk))
    · exact cell_below hW ((lies_alloc w1 #[.int .i64 v] _).c0)
    · exact cell_below bW l1
  rintro e w2 ⟨rfl, hb2⟩
  go_wp2_with fail
  go_ret
  exact ⟨ret_bool (by unfold haveB; rw [HVV.out]), by repeat (first | (with_reducible assumption) | (with_reducible exact Below.refl _ _) | (with_reducible apply below_alloc) | (with_reducible apply below_drewN) | (with_reducible apply Below.drew) | (with_reducible refine below_set ?_ (by dsimp only; omega) _) | (with_reducible refine below_trans ?_ (by assumption)))⟩
end Go.Proofs.Ytjljnkbiakadeaa
