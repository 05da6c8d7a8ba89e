/- Logs that match: the program's logsMatch, the reference's l13Match. -/
import Derived.Test.YtfffbjeaebmhbaaF1
set_option linter.unusedVariables false
set_option linter.unusedSimpArgs false
namespace Go.Proofs.Ytfffbjeaebmhbaa
open Go Go.RowKit Mk
def isB (a b : List SEntry) : Bool := com a b == a.length
/-- Two nodes' logs of one last view part. -/
def parts (n m : SReplica) : Bool := n.Last == m.Last && (!isB n.Log m.Log && !isB m.Log n.Log)
def MatchP (xs : List SReplica) : Prop := ∀ (i j : Nat) (n m : SReplica), j < i → xs[i]? = some n → xs[j]? = some m → parts n m = false
noncomputable def matchB (c : SCluster) : Bool := @decide (MatchP c.Nodes) (Classical.propDecidable _)
theorem matchB_true {c : SCluster} (h : MatchP c.Nodes) : matchB c = true := @decide_eq_true _ (Classical.propDecidable _) h
theorem matchB_false {c : SCluster} {i j : Nat} {n m : SReplica} (h : j < i) (hi : c.Nodes[i]? = some n) (hj : c.Nodes[j]? = some m) (hp : parts n m = true) : matchB c = false :=
  @decide_eq_false _ (Classical.propDecidable _) fun H => by rw [H i j n m h hi hj] at hp; cases hp
/-- Up to a place (i, j) no two part. -/
def MatchTo (xs : List SReplica) (i j : Nat) : Prop := ∀ (a b : Nat) (n m : SReplica), b < a → (a < i ∨ a = i ∧ b < j) → xs[a]? = some n → xs[b]? = some m → parts n m = false
theorem MatchTo.start (xs : List SReplica) : MatchTo xs 0 0 := fun a b n m h1 h2 => by omega
theorem MatchTo.row {xs : List SReplica} {i j : Nat} (h : MatchTo xs i j) (hj : i ≤ j) : MatchTo xs (i + 1) 0 := fun a b n m h1 h2 => h a b n m h1 (by omega)
theorem MatchTo.step {xs : List SReplica} {i j : Nat} {n m : SReplica} (h : MatchTo xs i j) (hi : xs[i]? = some n) (hj : xs[j]? = some m) (hp : parts n m = false) : MatchTo xs i (j + 1) := by
  intro a b x y h1 h2 ha hb
  by_cases q : a = i ∧ b = j
  · obtain ⟨rfl, rfl⟩ := q
    rw [hi] at ha; rw [hj] at hb
    cases ha; cases hb; exact hp
  · exact h a b x y h1 (by omega) ha hb
theorem MatchTo.done {xs : List SReplica} {i j : Nat} (h : MatchTo xs i j) (hi : xs.length ≤ i) : MatchP xs := by
  intro a b n m h1 ha hb
  have := (List.getElem?_eq_some_iff.1 ha).1
  exact h a b n m h1 (by omega) ha hb
theorem isB_le {a b : List SEntry} (h : ¬ (a.length : Int) ≤ (b.length : Int)) : isB a b = false := by
  have := com_le a b
  unfold isB
  exact beq_eq_false_iff_ne.2 (by omega)
set_option maxRecDepth 100000 in
theorem isBeginningS_c (xs ys : List SEntry) (A : Option Addr) (c : Nat) (B : Option Addr) (d : Nat) (w : World) (hx : RdS kEntry w A c xs) (hy : RdS kEntry w B d ys) :
    Calls Try.prog 87 #[.slice A xs.length c, .slice B ys.length d] w fun e w' => e = .returned (.bool (isB xs ys)) ∧ ∃ m, w' = w.drewN m := by
  by_cases h : (xs.length : Int) ≤ (ys.length : Int)
  · have hd : decide ((xs.length : Int) ≤ (ys.length : Int)) = true := decide_eq_true h
    go_enter Try.func87, Try.ntmps87
    go_wp2_with (go_at_call 128; refine (commonOf_c xs ys _ _ _ _ _ hx hy).mono ?_; rintro e w1 ⟨rfl, m, rfl⟩)
    go_ret
    refine ⟨ret_bool ?_, m, rfl⟩
    unfold isB
    rw [Bool.eq_iff_iff, beq_iff_eq, beq_iff_eq]; omega
  · have hf := isB_le h
    have hd : decide ((xs.length : Int) ≤ (ys.length : Int)) = false := decide_eq_false h
    rw [hf]; clear hf
    go_enter Try.func87, Try.ntmps87
    go_wp2
    go_ret
    exact ⟨rfl, 0, rfl⟩
theorem isBeg_c (xs ys : List SEntry) (A : Option Addr) (c : Nat) (B : Option Addr) (d : Nat) (w : World) (hx : RdS kEntry w A c xs) (hy : RdS kEntry w B d ys) :
    Calls Try.prog 133 #[.slice A xs.length c, .slice B ys.length d] w fun e w' => e = .returned (.bool (isB xs ys)) ∧ ∃ m, w' = w.drewN m := isBeginning_c xs ys A c B d w hx hy
set_option maxRecDepth 100000 in
set_option maxHeartbeats 4000000 in
theorem l13Match_c (c : SCluster) (p : Addr) (w : World) (h : At kCluster w p c) :
    Calls Try.prog 89 #[.pointer (some p)] w fun e w' => e = .returned (.bool (matchB c)) ∧ ∃ m, w' = w.drewN m := by
  obtain ⟨A0, c0, A1, c1, A2, c2, hh⟩ := atCluster h
  obtain ⟨f0, f1, f2, h0, h1, h2⟩ := hh
  have hl0 := h0.le63
  clear h h1 h2 f1 f2
  go_enter Try.func89, Try.ntmps89
  go_wp2_with fail
  go_loopw [3] (fun i W => ∃ k : Nat, k ≤ c.Nodes.length ∧ i = .int .i64 k ∧ MatchTo c.Nodes k 0 ∧ ∃ m, W = w.drewN m) (fun i _ => c.Nodes.length - (intOf i).toNat)
  case atStart => exact ⟨0, Nat.zero_le _, rfl, .start _, 0, rfl⟩
  case round =>
    obtain ⟨k, hk, rfl, hm, q, rfl⟩ := hrel
    by_cases hlt : k < c.Nodes.length
    · have hlt' : (k : Int) < (c.Nodes.length : Int) := by omega
      obtain ⟨a, ea, hx⟩ := h0.at_ hlt
      subst ea
      simp only [show kReplica.sz = 10 from rfl] at hx
      have hn := List.getElem?_eq_getElem hlt
      generalize c.Nodes[k] = n at hx hn
      obtain ⟨B5, d5, B7, d7, B8, d8, B9, d9, hq⟩ := atReplica hx
      obtain ⟨q0, q1, q2, q3, q4, q5, q6, q7, q8, q9, g5, g7, g8, g9⟩ := hq
      have HN := Lib.hid hn
      clear hn hx q0 q1 q2 q3 q6 q7 q8 q9 g7 g8 g9
      go_wp2_with fail
      go_loopw [4] (fun j W => ∃ l : Nat, l ≤ k ∧ j = .int .i64 l ∧ MatchTo c.Nodes k l ∧ ∃ m, W = w.drewN m) (fun j _ => k - (intOf j).toNat)
      case atStart => exact ⟨0, Nat.zero_le _, rfl, hm, q, rfl⟩
      case round =>
        clear hm
        obtain ⟨l, hl, rfl, hm, q', rfl⟩ := hrel
        by_cases hlt2 : l < k
        · have hlt3 : (l : Int) < (k : Int) := by omega
          have hlt4 : l < c.Nodes.length := by omega
          have hlt5 : (l : Int) < (c.Nodes.length : Int) := by omega
          obtain ⟨b, eb, hy⟩ := h0.at_ hlt4
          cases eb
          simp only [show kReplica.sz = 10 from rfl] at hy
          have hn2 := List.getElem?_eq_getElem hlt4
          generalize c.Nodes[l] = n2 at hy hn2
          obtain ⟨C5, e5, C7, e7, C8, e8, C9, e9, hq⟩ := atReplica hy
          obtain ⟨r0, r1, r2, r3, r4, r5, r6, r7, r8, r9, s5, s7, s8, s9⟩ := hq
          have HN2 := Lib.hid hn2
          have HB := Lib.hid (fun (W : World) (hb : Below w.heap.size w W) => isBeginningS_c n.Log n2.Log B5 d5 C5 e5 W (g5.below hb) (s5.below hb))
          have HB2 := Lib.hid (fun (W : World) (hb : Below w.heap.size w W) => isBeginningS_c n2.Log n.Log C5 e5 B5 d5 W (s5.below hb) (g5.below hb))
          have HM := Lib.hid hm
          clear hn2 hy hm r0 r1 r2 r3 r6 r7 r8 r9 s7 s8 s9
          cases e1 : (n.Last == n2.Last) with
          | false =>
            go_wp2_with fail
            go_quiet (fail)
            go_wp2_with fail
            exact ⟨⟨l + 1, hlt2, by go_num, HM.out.step HN.out HN2.out (by simp [parts, e1]), by first | exact ⟨_, rfl⟩ | (simp only [World.drewN_drewN]; exact ⟨_, rfl⟩)⟩, by simp [intOf]; omega⟩
          | true =>
            cases e2 : isB n.Log n2.Log with
            | true =>
              rw [e2] at HB
              go_wp2_with fail
              go_quiet ((first | (go_at_call 87; (with_reducible refine quiet_sum (HB.out _ ?_)); repeat (first | (with_reducible assumption) | (with_reducible exact Below.refl _ _) | (with_reducible apply below_alloc) | (with_reducible apply below_drewN) | (with_reducible apply Below.drew) | (with_reducible refine below_set ?_ (by dsimp only; omega) _) | (with_reducible refine below_trans ?_ (by assumption)))) | (go_at_call 87; (with_reducible refine quiet_sum (HB2.out _ ?_)); repeat (first | (with_reducible assumption) | (with_reducible exact Below.refl _ _) | (with_reducible apply below_alloc) | (with_reducible apply below_drewN) | (with_reducible apply Below.drew) | (with_reducible refine below_set ?_ (by dsimp only; omega) _) | (with_reducible refine below_trans ?_ (by assumption))))))
              go_wp2_with fail
              exact ⟨⟨l + 1, hlt2, by go_num, HM.out.step HN.out HN2.out (by simp [parts, e2]), by first | exact ⟨_, rfl⟩ | (simp only [World.drewN_drewN]; exact ⟨_, rfl⟩)⟩, by simp [intOf]; omega⟩
            | false =>
              rw [e2] at HB
              cases e3 : isB n2.Log n.Log with
              | true =>
                rw [e3] at HB2
                go_wp2_with fail
                go_quiet ((first | (go_at_call 87; (with_reducible refine quiet_sum (HB.out _ ?_)); repeat (first | (with_reducible assumption) | (with_reducible exact Below.refl _ _) | (with_reducible apply below_alloc) | (with_reducible apply below_drewN) | (with_reducible apply Below.drew) | (with_reducible refine below_set ?_ (by dsimp only; omega) _) | (with_reducible refine below_trans ?_ (by assumption)))) | (go_at_call 87; (with_reducible refine quiet_sum (HB2.out _ ?_)); repeat (first | (with_reducible assumption) | (with_reducible exact Below.refl _ _) | (with_reducible apply below_alloc) | (with_reducible apply below_drewN) | (with_reducible apply Below.drew) | (with_reducible refine below_set ?_ (by dsimp only; omega) _) | (with_reducible refine below_trans ?_ (by assumption))))))
                go_wp2_with fail
                exact ⟨⟨l + 1, hlt2, by go_num, HM.out.step HN.out HN2.out (by simp [parts, e3]), by first | exact ⟨_, rfl⟩ | (simp only [World.drewN_drewN]; exact ⟨_, rfl⟩)⟩, by simp [intOf]; omega⟩
              | false =>
                rw [e3] at HB2
                go_wp2_with fail
                go_quiet ((first | (go_at_call 87; (with_reducible refine quiet_sum (HB.out _ ?_)); repeat (first | (with_reducible assumption) | (with_reducible exact Below.refl _ _) | (with_reducible apply below_alloc) | (with_reducible apply below_drewN) | (with_reducible apply Below.drew) | (with_reducible refine below_set ?_ (by dsimp only; omega) _) | (with_reducible refine below_trans ?_ (by assumption)))) | (go_at_call 87; (with_reducible refine quiet_sum (HB2.out _ ?_)); repeat (first | (with_reducible assumption) | (with_reducible exact Below.refl _ _) | (with_reducible apply below_alloc) | (with_reducible apply below_drewN) | (with_reducible apply Below.drew) | (with_reducible refine below_set ?_ (by dsimp only; omega) _) | (with_reducible refine below_trans ?_ (by assumption))))))
                go_wp2_with fail
                go_ret
                exact ⟨ret_bool (matchB_false hlt2 HN.out HN2.out (by unfold parts; rw [e1, e2, e3]; rfl)).symm, by first | exact ⟨_, rfl⟩ | (simp only [World.drewN_drewN]; exact ⟨_, rfl⟩)⟩
        · have hlk : l = k := by omega
          subst hlk
          go_wp2_with fail
          exact ⟨⟨l + 1, hlt, by go_num, hm.row (Nat.le_refl _), q', rfl⟩, by simp [intOf]; omega⟩
    · have HM := Lib.hid (hm.done (by omega))
      clear hm
      go_wp2
      go_ret
      exact ⟨ret_bool (matchB_true HM.out).symm, q, rfl⟩
end Go.Proofs.Ytfffbjeaebmhbaa
