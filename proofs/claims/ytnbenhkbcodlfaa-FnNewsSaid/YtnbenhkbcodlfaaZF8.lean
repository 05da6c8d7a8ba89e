/- Whether all nodes are alike: the program's isEven (with slices.Equal at entries), the reference's EvenCluster. -/
import Derived.Test.YtnbenhkbcodlfaaZF6
set_option linter.unusedVariables false
set_option linter.unusedSimpArgs false
namespace Go.Proofs.Ytnbenhkbcodlfaa
open Go Go.RowKit Mk
/-- Two logs are the same. -/
def eqL (a b : List SEntry) : Bool := a.length == b.length && com a b == a.length
attribute [local go_sem high] eqEntry_at
set_option maxRecDepth 100000 in
set_option maxHeartbeats 1000000 in
theorem equalE_c (xs ys : List SEntry) (A : Option Addr) (c : Nat) (B : Option Addr) (d : Nat) (w : World) (hx : RdS kEntry w A c xs) (hy : RdS kEntry w B d ys) :
    Calls Try.prog 73 #[.slice A xs.length c, .slice B ys.length d] w fun e w' => e = .returned (.bool (eqL xs ys)) ∧ ∃ m, w' = w.drewN m := by
  have hl1 := hx.le63
  have hl2 := hy.le63
  cases hl : (xs.length == ys.length) with
  | false =>
    have hd : ((xs.length : Int) == (ys.length : Int)) = false := by rw [beq_eq_false_iff_ne] at hl ⊢; omega
    have hd' : ((xs.length : Int) != (ys.length : Int)) = true := by simp only [bne, hd]; rfl
    have HR := Lib.hid (show eqL xs ys = false by unfold eqL; rw [hl]; rfl)
    clear hl
    go_enter Try.func73, Try.ntmps73
    go_wp2
    go_ret
    exact ⟨ret_bool HR.out.symm, 0, rfl⟩
  | true =>
    have hd : ((xs.length : Int) == (ys.length : Int)) = true := by rw [beq_iff_eq] at hl ⊢; omega
    have hd' : ((xs.length : Int) != (ys.length : Int)) = false := by simp only [bne, hd]; rfl
    have he : xs.length = ys.length := by simpa using hl
    have HR := Lib.hid (show eqL xs ys = (com xs ys == xs.length) by unfold eqL; rw [hl]; rfl)
    have HE := Lib.hid he
    clear hl he
    go_enter Try.func73, Try.ntmps73
    go_wp2_with fail
    clear hd hd'
    go_loopw [13] (fun i W => ∃ k : Nat, k ≤ xs.length ∧ i = .int .i64 k ∧ com xs ys = k + com (xs.drop k) (ys.drop k) ∧ ∃ m, W = w.drewN m) (fun i _ => xs.length - (intOf i).toNat)
    case atStart => exact ⟨0, Nat.zero_le _, rfl, by simp, 0, rfl⟩
    case round =>
      obtain ⟨k, hk, rfl, hc, m, rfl⟩ := hrel
      by_cases l1 : k < xs.length
      · have l2 : k < ys.length := by have := HE.out; omega
        have l3 : (k : Int) < (xs.length : Int) := by omega
        have l4 : (k : Int) < (ys.length : Int) := by omega
        have hd := com_drop xs ys k l1 l2
        obtain ⟨a, ea, gx⟩ := hx.at_ l1
        obtain ⟨b, eb, gy⟩ := hy.at_ l2
        subst ea
        subst eb
        simp only [show kEntry.sz = 6 from rfl] at gx gy
        generalize xs[k] = x at gx hd
        generalize ys[k] = y at gy hd
        obtain ⟨p0, p1, p2, p3, p4, p5⟩ := atEntry gx
        obtain ⟨q0, q1, q2, q3, q4, q5⟩ := atEntry gy
        have HD := Lib.hid hd
        have HC := Lib.hid hc
        clear hd hc gx gy hx hy
        cases q : eqE x y with
        | true =>
          go_wp2_with fail
          go_quiet (fail)
          go_wp2_with fail
          have hd := HD.out
          rw [q, if_pos rfl] at hd
          have hc := HC.out
          exact ⟨⟨k + 1, l1, by go_num, by omega, by first | exact ⟨_, rfl⟩ | (simp only [World.drewN_drewN]; exact ⟨_, rfl⟩)⟩, by simp [intOf]; omega⟩
        | false =>
          go_wp2_with fail
          go_quiet (fail)
          go_wp2_with fail
          have hd := HD.out
          rw [q, if_neg (by simp)] at hd
          have hc := HC.out
          go_ret
          exact ⟨ret_bool (by rw [HR.out]; exact (beq_eq_false_iff_ne.2 (by omega)).symm), by first | exact ⟨_, rfl⟩ | (simp only [World.drewN_drewN]; exact ⟨_, rfl⟩)⟩
      · have hc' : com xs ys = xs.length := by
          rw [List.drop_of_length_le (by omega : xs.length ≤ k)] at hc
          have : com [] (ys.drop k) = 0 := by cases ys.drop k <;> rfl
          omega
        have HC := Lib.hid hc'
        clear hc hc'
        go_wp2
        go_ret
        exact ⟨ret_bool (by rw [HR.out, HC.out]; simp), m, rfl⟩
/-- A node isn't like the first one. -/
def odd (f n : SReplica) : Bool := !n.Normal || (n.View != f.View || (!eqL n.Log f.Log || n.Commit != (n.Log.length : Int)))
def evenB (c : SCluster) : Bool := match c.Nodes with | [] => true | f :: _ => !(c.Nodes.any (odd f))
set_option maxRecDepth 100000 in
set_option maxHeartbeats 1000000 in
theorem even1_c (f n : SReplica) (p : Addr) (A5 : Option Addr) (c5 : Nat) (A7 : Option Addr) (c7 : Nat) (A8 : Option Addr) (c8 : Nat) (A9 : Option Addr) (c9 : Nat) (w : World) (hp : At kReplica w p f) (h5 : RdS kEntry w A5 c5 n.Log) (h7 : RdS kInt w A7 c7 n.Oks) (h8 : RdS kBool w A8 c8 n.Asks) (h9 : RdS kDoer w A9 c9 n.Doers) :
    Calls Try.prog 72 #[.agg #[.int .i64 n.Id, .int .i64 n.Size, .int .i64 n.View, .bool n.Normal, .int .i64 n.Last, .slice A5 n.Log.length c5, .int .i64 n.Commit, .slice A7 n.Oks.length c7, .slice A8 n.Asks.length c8, .slice A9 n.Doers.length c9], .pointer (some p)] w fun e w' => e = .returned (.bool (odd f n)) ∧ Below w.heap.size w w' := by
  obtain ⟨B5, d5, B7, d7, B8, d8, B9, d9, hq⟩ := atReplica hp
  obtain ⟨q0, q1, q2, q3, q4, q5, q6, q7, q8, q9, g5, g7, g8, g9⟩ := hq
  have hln := h5.le63
  have hbx : Below w.heap.size w (w.alloc (.cells #[.int .i64 n.Id, .int .i64 n.Size, .int .i64 n.View, .bool n.Normal, .int .i64 n.Last, .slice A5 n.Log.length c5, .int .i64 n.Commit, .slice A7 n.Oks.length c7, .slice A8 n.Asks.length c8, .slice A9 n.Doers.length c9] 63)) := below_alloc (Below.refl _ _) _
  have HQ := Lib.hid (fun (W : World) (hb : Below w.heap.size w W) => equalE_c n.Log f.Log A5 c5 B5 d5 W (h5.below hb) (g5.below hb))
  have k2 := cell_alloc q2 (.cells #[.int .i64 n.Id, .int .i64 n.Size, .int .i64 n.View, .bool n.Normal, .int .i64 n.Last, .slice A5 n.Log.length c5, .int .i64 n.Commit, .slice A7 n.Oks.length c7, .slice A8 n.Asks.length c8, .slice A9 n.Doers.length c9] 63)
  have k5 := cell_alloc q5 (.cells #[.int .i64 n.Id, .int .i64 n.Size, .int .i64 n.View, .bool n.Normal, .int .i64 n.Last, .slice A5 n.Log.length c5, .int .i64 n.Commit, .slice A7 n.Oks.length c7, .slice A8 n.Asks.length c8, .slice A9 n.Doers.length c9] 63)
  clear hp h5 h7 h8 h9 g5 g7 g8 g9 q0 q1 q2 q3 q4 q5 q6 q7 q8 q9
  cases r1 : n.Normal with
  | false =>
    have HR := Lib.hid (show odd f n = true by unfold odd; rw [r1]; rfl)
    go_enter Try.func72, Try.ntmps72
    go_wp2_with fail
    go_quiet (fail)
    go_wp2_with fail
    go_ret
    exact ⟨ret_bool HR.out.symm, by repeat (first | (with_reducible assumption) | (with_reducible exact Below.refl _ _) | (with_reducible apply below_alloc) | (with_reducible apply below_drewN) | (with_reducible apply Below.drew) | (with_reducible refine below_set ?_ (by dsimp only; omega) _) | (with_reducible refine below_trans ?_ (by assumption)))⟩
  | true =>
    rw [r1] at k2 k5 hbx
    cases r2 : (n.View != f.View) with
    | true =>
      have HR := Lib.hid (show odd f n = true by unfold odd; rw [r1, r2]; rfl)
      go_enter Try.func72, Try.ntmps72
      go_wp2_with fail
      go_quiet (fail)
      go_wp2_with fail
      go_ret
      exact ⟨ret_bool HR.out.symm, by repeat (first | (with_reducible assumption) | (with_reducible exact Below.refl _ _) | (with_reducible apply below_alloc) | (with_reducible apply below_drewN) | (with_reducible apply Below.drew) | (with_reducible refine below_set ?_ (by dsimp only; omega) _) | (with_reducible refine below_trans ?_ (by assumption)))⟩
    | false =>
      cases r3 : eqL n.Log f.Log with
      | false =>
        have HR := Lib.hid (show odd f n = true by unfold odd; rw [r1, r2, r3]; rfl)
        rw [r3] at HQ
        clear r3
        go_enter Try.func72, Try.ntmps72
        go_wp2_with fail
        go_quiet ((go_at_call 73; (first | (with_reducible refine Calls.quiet_of (HQ.out _ ?_)) | (with_reducible refine quiet_sum (HQ.out _ ?_))); repeat (first | (with_reducible assumption) | (with_reducible exact Below.refl _ _) | (with_reducible apply below_alloc) | (with_reducible apply below_drewN) | (with_reducible apply Below.drew) | (with_reducible refine below_set ?_ (by dsimp only; omega) _) | (with_reducible refine below_trans ?_ (by assumption)))))
        go_wp2_with fail
        go_ret
        exact ⟨ret_bool HR.out.symm, by repeat (first | (with_reducible assumption) | (with_reducible exact Below.refl _ _) | (with_reducible apply below_alloc) | (with_reducible apply below_drewN) | (with_reducible apply Below.drew) | (with_reducible refine below_set ?_ (by dsimp only; omega) _) | (with_reducible refine below_trans ?_ (by assumption)))⟩
      | true =>
        have HR := Lib.hid (show odd f n = (n.Commit != (n.Log.length : Int)) by unfold odd; rw [r1, r2, r3]; rfl)
        rw [r3] at HQ
        clear r3
        go_enter Try.func72, Try.ntmps72
        go_wp2_with fail
        go_quiet ((first | (go_at_call 73; (first | (with_reducible refine Calls.quiet_of (HQ.out _ ?_)) | (with_reducible refine quiet_sum (HQ.out _ ?_))); repeat (first | (with_reducible assumption) | (with_reducible exact Below.refl _ _) | (with_reducible apply below_alloc) | (with_reducible apply below_drewN) | (with_reducible apply Below.drew) | (with_reducible refine below_set ?_ (by dsimp only; omega) _) | (with_reducible refine below_trans ?_ (by assumption)))) | (go_at_call 74; (with_reducible refine Calls.quiet_of_same ((many_c _ _ _ _).mono fun e w' ⟨he, hw⟩ => ⟨he, hw.symm⟩)))))
        go_wp2_with fail
        go_ret
        exact ⟨ret_bool HR.out.symm, by repeat (first | (with_reducible assumption) | (with_reducible exact Below.refl _ _) | (with_reducible apply below_alloc) | (with_reducible apply below_drewN) | (with_reducible apply Below.drew) | (with_reducible refine below_set ?_ (by dsimp only; omega) _) | (with_reducible refine below_trans ?_ (by assumption)))⟩
set_option maxRecDepth 100000 in
set_option maxHeartbeats 1000000 in
theorem isEven_c (c : SCluster) (p : Addr) (w : World) (h : At kCluster w p c) (hsz : 1 ≤ c.Nodes.length) :
    Calls Try.prog 47 #[.pointer (some p)] w fun e w' => e = .returned (.bool (evenB c)) ∧ Below w.heap.size w w' := by
  obtain ⟨A0, c0, A1, c1, A2, c2, hh⟩ := atCluster h
  obtain ⟨f0, f1, f2, h0, h1, h2⟩ := hh
  obtain ⟨a, ea, hx⟩ := h0.at_ (k := 0) hsz
  subst ea
  simp only [Nat.zero_mul, show ∀ a : Addr, a.add 0 = a from fun a => rfl] at hx
  have hev : evenB c = !(c.Nodes.any (odd c.Nodes[0])) := by
    unfold evenB
    split
    · rename_i hc; rw [hc] at hsz; cases hsz
    · rename_i f fs hc; simp only [hc, List.getElem_cons_zero]
  have HV := Lib.hid hev
  clear hev
  generalize c.Nodes[0] = f at hx HV
  obtain ⟨B5, d5, B7, d7, B8, d8, B9, d9, hq⟩ := atReplica hx
  obtain ⟨q0, q1, q2, q3, q4, q5, q6, q7, q8, q9, g5, g7, g8, g9⟩ := hq
  have hls : 0 < c.Nodes.length := hsz
  have hls' : (0 : Int) < (c.Nodes.length : Int) := by omega
  have f0' := cell_alloc f0 (.cells #[.int .i64 f.Id, .int .i64 f.Size, .int .i64 f.View, .bool f.Normal, .int .i64 f.Last, .slice B5 f.Log.length d5, .int .i64 f.Commit, .slice B7 f.Oks.length d7, .slice B8 f.Asks.length d8, .slice B9 f.Doers.length d9] 63)
  go_enter Try.func47, Try.ntmps47
  go_wp2_with fail
  refine (containsFunc_rep 72 #[.pointer (some ⟨w.heap.size, 0, none⟩)] (Go.Proofs.enters_of Try.func72 (by kernel_rfl) rfl) (odd f) c.Nodes (some a) c0 _ ?_ ?_).mono ?_
  · exact h0.below (by repeat (first | (with_reducible assumption) | (with_reducible exact Below.refl _ _) | (with_reducible apply below_alloc) | (with_reducible apply below_drewN) | (with_reducible apply Below.drew) | (with_reducible refine below_set ?_ (by dsimp only; omega) _) | (with_reducible refine below_trans ?_ (by assumption))))
  · intro k hk W cs hW hr
    obtain ⟨D5, e5, D7, e7, D8, e8, D9, e9, rfl, s5, s7, s8, s9⟩ := kReplica_open hr
    exact even1_c f _ ⟨w.heap.size, 0, none⟩ D5 e5 D7 e7 D8 e8 D9 e9 W ((boxReplica w f _ g5 g7 g8 g9).below hW) s5 s7 s8 s9
  rintro e w1 ⟨rfl, hb1⟩
  go_wp2_with fail
  go_ret
  exact ⟨ret_bool HV.out.symm, by repeat (first | (with_reducible assumption) | (with_reducible exact Below.refl _ _) | (with_reducible apply below_alloc) | (with_reducible apply below_drewN) | (with_reducible apply Below.drew) | (with_reducible refine below_set ?_ (by dsimp only; omega) _) | (with_reducible refine below_trans ?_ (by assumption)))⟩
end Go.Proofs.Ytnbenhkbcodlfaa
