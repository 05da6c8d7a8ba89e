/- Logs that begin alike: what common, isBeginning and the reference's CommonOf come to. -/
import Derived.Test.YtdjfehjddfbbjaaGreatZTy
import Derived.Test.YtdjfehjddfbbjaaGreatZRo
import Derived.Test.YtdjfehjddfbbjaaGreatProg
import Derived.Laws.StructEq
import Derived.Test.YtdjfehjddfbbjaaGreatZB
set_option linter.unusedVariables false
set_option linter.unusedSimpArgs false
namespace Go.Proofs.YtdjfehjddfbbjaaGreat
open Go Go.RowKit Mk
theorem quiet_sum {P : Program} {f : FuncId} {args : Array Value} {w : World} {q n : Nat} {v : Value}
    (h : Calls P f args (w.drewN (q + n)) fun e w' => e = .returned v ∧ ∃ m, w' = (w.drewN (q + n)).drewN m) : Calls P f args (w.drewN (q + n)) fun e w'' => e = .returned v ∧ ∃ m, w'' = w.drewN (q + m) :=
  h.mono fun _ _ ⟨he, m, hm⟩ => ⟨he, n + m, by rw [hm, World.drewN_drewN, Nat.add_assoc]⟩
section
variable {P : Program} {d : Nat} {xs ys : Array Value} {f : Field} {fs : List Field} {a b : Value} {r s : Bool} {w : World}
theorem eqf_last (hn : (f.name == "_") = false) (ha : (part f.type xs f.offset).run P w = .ok a w) (hb : (part f.type ys f.offset).run P w = .ok b w) (he : (Op.equalIn d f.type a b).run P w = .ok r w) : (Op.eqFields d xs ys [f]).run P w = .ok r w := by
  have hn' : f.name ≠ "_" := by simpa using hn
  simp only [Op.eqFields, if_pos hn', Sem.run_bind, ha, hb, he, Result.andThen_ok]
  cases r <;> simp
theorem eqf_cons (hn : (f.name == "_") = false) (ha : (part f.type xs f.offset).run P w = .ok a w) (hb : (part f.type ys f.offset).run P w = .ok b w) (he : (Op.equalIn d f.type a b).run P w = .ok r w) (hr : (Op.eqFields d xs ys fs).run P w = .ok s w) : (Op.eqFields d xs ys (f :: fs)).run P w = .ok (r && s) w := by
  have hn' : f.name ≠ "_" := by simpa using hn
  rw [Op.eqFields]
  simp only [if_pos hn', Sem.run_bind, ha, hb, he, Result.andThen_ok]
  cases r
  · simp
  · simpa using hr
theorem eqA_of {t : TypeId} {fs : Array Field} (hu : P.underlying t = some (.struct fs)) (hp : P.stoodInHeld t = false) (h : (Op.eqFields d xs ys fs.toList).run P w = .ok r w) : (Op.equalIn (d + 1) t (.agg xs) (.agg ys)).run P w = .ok r w := by
  have hf : P.fieldsOf t = fs := by simp [Program.fieldsOf, hu]
  rw [run_equalIn_struct (P := P) w d t xs ys (by rw [hf]; exact hu) hp, hf]
  exact h
end
def eqO (x y : SOp) : Bool := x.Kind == y.Kind && (x.Vol == y.Vol && (x.At == y.At && (x.Value == y.Value)))
def eqE (x y : SEntry) : Bool := x.Client == y.Client && (x.Seq == y.Seq && eqO x.Op y.Op)
theorem eqOp_at (d : Nat) (w : World) (x y : SOp) :
    (Op.equalIn (d + 2) 47 (.agg #[.int .i64 x.Kind, .int .i64 x.Vol, .int .i64 x.At, .int .i64 x.Value]) (.agg #[.int .i64 y.Kind, .int .i64 y.Vol, .int .i64 y.At, .int .i64 y.Value])).run Tryz.prog w = .ok (eqO x y) w := by
  refine eqA_of Tryz.underlying47 (by kernel_rfl) ?_
  refine eqf_cons (by rfl) (by go_simp; rfl) (by go_simp; rfl) (by go_simp) ?_
  refine eqf_cons (by rfl) (by go_simp; rfl) (by go_simp; rfl) (by go_simp) ?_
  refine eqf_cons (by rfl) (by go_simp; rfl) (by go_simp; rfl) (by go_simp) ?_
  exact eqf_last (by rfl) (by go_simp; rfl) (by go_simp; rfl) (by go_simp)
theorem eqEntry_at (d : Nat) (w : World) (x y : SEntry) :
    (Op.equalIn (d + 3) 49 (.agg #[.int .i64 x.Client, .int .i64 x.Seq, .int .i64 x.Op.Kind, .int .i64 x.Op.Vol, .int .i64 x.Op.At, .int .i64 x.Op.Value]) (.agg #[.int .i64 y.Client, .int .i64 y.Seq, .int .i64 y.Op.Kind, .int .i64 y.Op.Vol, .int .i64 y.Op.At, .int .i64 y.Op.Value])).run Tryz.prog w = .ok (eqE x y) w := by
  refine eqA_of Tryz.underlying49 (by kernel_rfl) ?_
  refine eqf_cons (by rfl) (by go_simp; rfl) (by go_simp; rfl) (by go_simp) ?_
  refine eqf_cons (by rfl) (by go_simp; rfl) (by go_simp; rfl) (by go_simp) ?_
  exact eqf_last (by rfl) (by go_simp) (by go_simp) (eqOp_at (d + 0) w _ _)
/-- How many entries two logs begin with alike. -/
def com : List SEntry → List SEntry → Nat
  | x :: xs, y :: ys => if eqE x y then com xs ys + 1 else 0
  | _, _ => 0
theorem com_drop (xs ys : List SEntry) (k : Nat) (hx : k < xs.length) (hy : k < ys.length) : com (xs.drop k) (ys.drop k) = if eqE xs[k] ys[k] then com (xs.drop (k + 1)) (ys.drop (k + 1)) + 1 else 0 := by
  rw [List.drop_eq_getElem_cons hx, List.drop_eq_getElem_cons hy]; rfl
theorem com_end (xs ys : List SEntry) (k : Nat) (h : xs.length ≤ k ∨ ys.length ≤ k) : com (xs.drop k) (ys.drop k) = 0 := by
  rcases h with h | h
  · rw [List.drop_of_length_le h]; cases ys.drop k <;> rfl
  · rw [List.drop_of_length_le h]; cases xs.drop k <;> rfl
theorem com_le : ∀ (xs ys : List SEntry), com xs ys ≤ xs.length ∧ com xs ys ≤ ys.length
  | [], ys => by cases ys <;> simp [com]
  | x :: xs, [] => by simp [com]
  | x :: xs, y :: ys => by
    have := com_le xs ys
    unfold com
    split <;> simp <;> omega
theorem com_take : ∀ (n : Nat) (xs ys : List SEntry), com (xs.take n) ys = min n (com xs ys)
  | 0, xs, ys => by cases ys <;> simp [com]
  | n + 1, [], ys => by cases ys <;> simp [com]
  | n + 1, x :: xs, [] => by simp [com]
  | n + 1, x :: xs, y :: ys => by
    rw [List.take_succ_cons]
    unfold com
    have := com_take n xs ys
    split <;> omega
attribute [local go_sem high] eqEntry_at
set_option maxRecDepth 100000 in
set_option maxHeartbeats 1000000 in
theorem common_c (xs ys : List SEntry) (A : Option Addr) (c : Nat) (B : Option Addr) (d : Nat) (w : World) (hx : RdS kEntry w A c xs) (hy : RdS kEntry w B d ys) :
    Calls Tryz.prog 44 #[.slice A xs.length c, .slice B ys.length d] w fun e w' => e = .returned (.int .i64 (com xs ys)) ∧ ∃ m, w' = w.drewN m := by
  have hl1 := hx.le63
  have hl2 := hy.le63
  go_enter Tryz.func44, Tryz.ntmps44
  go_wp2_with fail
  go_loopw [5] (fun i W => ∃ k : Nat, k ≤ xs.length ∧ k ≤ ys.length ∧ i = .int .i64 k ∧ com xs ys = k + com (xs.drop k) (ys.drop k) ∧ ∃ m, W = w.drewN m) (fun i _ => xs.length - (intOf i).toNat)
  case atStart => exact ⟨0, Nat.zero_le _, Nat.zero_le _, rfl, by simp, 0, rfl⟩
  case round =>
    obtain ⟨k, h1, h2, rfl, hc, m, rfl⟩ := hrel
    have hb : Below w.heap.size w (w.drewN m) := below_drewN (Below.refl _ _) m
    by_cases hlt : k < xs.length ∧ k < ys.length
    · obtain ⟨l1, l2⟩ := hlt
      have l3 : (k : Int) < (xs.length : Int) := by omega
      have l4 : (k : Int) < (ys.length : Int) := by omega
      have l5 : (k : Int) < min (xs.length : Int) (ys.length : Int) := by omega
      have hd := com_drop xs ys k l1 l2
      obtain ⟨a, ea, gx⟩ := hx.at_ l1
      obtain ⟨b, eb, gy⟩ := hy.at_ l2
      subst ea
      subst eb
      simp only [show kEntry.sz = 6 from rfl] at gx gy
      generalize xs[k] = x at gx hd
      generalize ys[k] = y at gy hd
      obtain ⟨p0, p1, p2, p3, p4, p5⟩ := atEntry gx
      obtain ⟨q0, q1, q2, q3, q4, q5⟩ := atEntry gy
      have HD := Lib.hid hd
      have HC := Lib.hid hc
      clear hd hc gx gy
      cases q : eqE x y with
      | true =>
        go_wp2_with fail
        go_quiet (fail)
        go_wp2_with fail
        have hd := HD.out
        rw [q, if_pos rfl] at hd
        have hc := HC.out
        exact ⟨⟨k + 1, l1, l2, by go_num, by omega, by first | exact ⟨_, rfl⟩ | (simp only [World.drewN_drewN]; exact ⟨_, rfl⟩)⟩, by simp [intOf]; omega⟩
      | false =>
        go_wp2_with fail
        go_quiet (fail)
        go_wp2_with fail
        have hd := HD.out
        rw [q, if_neg (by simp)] at hd
        have hc := HC.out
        go_ret
        exact ⟨ret_int (by omega), by first | exact ⟨_, rfl⟩ | (simp only [World.drewN_drewN]; exact ⟨_, rfl⟩)⟩
    · have he := com_end xs ys k (by omega)
      have HC := Lib.hid hc
      clear hc
      by_cases l1 : k < xs.length
      · have l3 : (k : Int) < (xs.length : Int) := by omega
        have l4 : decide ((k : Int) < (ys.length : Int)) = false := decide_eq_false (by omega)
        have l6 : decide (k < ys.length) = false := decide_eq_false (by omega)
        have l5 : decide ((k : Int) < min (xs.length : Int) (ys.length : Int)) = false := decide_eq_false (by omega)
        clear hlt
        go_wp2_with fail
        go_quiet (fail)
        go_wp2_with fail
        have hc := HC.out
        go_ret
        exact ⟨ret_int (by omega), by first | exact ⟨_, rfl⟩ | (simp only [World.drewN_drewN]; exact ⟨_, rfl⟩)⟩
      · have l3 : decide ((k : Int) < (xs.length : Int)) = false := decide_eq_false (by omega)
        have l5 : decide ((k : Int) < min (xs.length : Int) (ys.length : Int)) = false := decide_eq_false (by omega)
        clear hlt
        go_wp2_with fail
        go_quiet (fail)
        go_wp2_with fail
        have hc := HC.out
        go_ret
        exact ⟨ret_int (by omega), by first | exact ⟨_, rfl⟩ | (simp only [World.drewN_drewN]; exact ⟨_, rfl⟩)⟩
set_option maxRecDepth 100000 in
set_option maxHeartbeats 1000000 in
theorem commonOf_c (xs ys : List SEntry) (A : Option Addr) (c : Nat) (B : Option Addr) (d : Nat) (w : World) (hx : RdS kEntry w A c xs) (hy : RdS kEntry w B d ys) :
    Calls Tryz.prog 106 #[.slice A xs.length c, .slice B ys.length d] w fun e w' => e = .returned (.int .i64 (com xs ys)) ∧ ∃ m, w' = w.drewN m := by
  have hl1 := hx.le63
  have hl2 := hy.le63
  go_enter Tryz.func106, Tryz.ntmps106
  go_wp2_with fail
  go_loopw [5] (fun i W => ∃ k : Nat, k ≤ xs.length ∧ k ≤ ys.length ∧ i = .int .i64 k ∧ com xs ys = k + com (xs.drop k) (ys.drop k) ∧ ∃ m, W = w.drewN m) (fun i _ => xs.length - (intOf i).toNat)
  case atStart => exact ⟨0, Nat.zero_le _, Nat.zero_le _, rfl, by simp, 0, rfl⟩
  case round =>
    obtain ⟨k, h1, h2, rfl, hc, m, rfl⟩ := hrel
    have hb : Below w.heap.size w (w.drewN m) := below_drewN (Below.refl _ _) m
    by_cases hlt : k < xs.length ∧ k < ys.length
    · obtain ⟨l1, l2⟩ := hlt
      have l3 : (k : Int) < (xs.length : Int) := by omega
      have l4 : (k : Int) < (ys.length : Int) := by omega
      have l5 : (k : Int) < min (xs.length : Int) (ys.length : Int) := by omega
      have hd := com_drop xs ys k l1 l2
      obtain ⟨a, ea, gx⟩ := hx.at_ l1
      obtain ⟨b, eb, gy⟩ := hy.at_ l2
      subst ea
      subst eb
      simp only [show kEntry.sz = 6 from rfl] at gx gy
      generalize xs[k] = x at gx hd
      generalize ys[k] = y at gy hd
      obtain ⟨p0, p1, p2, p3, p4, p5⟩ := atEntry gx
      obtain ⟨q0, q1, q2, q3, q4, q5⟩ := atEntry gy
      have HD := Lib.hid hd
      have HC := Lib.hid hc
      clear hd hc gx gy
      cases q : eqE x y with
      | true =>
        go_wp2_with fail
        go_quiet (fail)
        go_wp2_with fail
        have hd := HD.out
        rw [q, if_pos rfl] at hd
        have hc := HC.out
        exact ⟨⟨k + 1, l1, l2, by go_num, by omega, by first | exact ⟨_, rfl⟩ | (simp only [World.drewN_drewN]; exact ⟨_, rfl⟩)⟩, by simp [intOf]; omega⟩
      | false =>
        go_wp2_with fail
        go_quiet (fail)
        go_wp2_with fail
        have hd := HD.out
        rw [q, if_neg (by simp)] at hd
        have hc := HC.out
        go_ret
        exact ⟨ret_int (by omega), by first | exact ⟨_, rfl⟩ | (simp only [World.drewN_drewN]; exact ⟨_, rfl⟩)⟩
    · have he := com_end xs ys k (by omega)
      have HC := Lib.hid hc
      clear hc
      by_cases l1 : k < xs.length
      · have l3 : (k : Int) < (xs.length : Int) := by omega
        have l4 : decide ((k : Int) < (ys.length : Int)) = false := decide_eq_false (by omega)
        have l6 : decide (k < ys.length) = false := decide_eq_false (by omega)
        have l5 : decide ((k : Int) < min (xs.length : Int) (ys.length : Int)) = false := decide_eq_false (by omega)
        clear hlt
        go_wp2_with fail
        go_quiet (fail)
        go_wp2_with fail
        have hc := HC.out
        go_ret
        exact ⟨ret_int (by omega), by first | exact ⟨_, rfl⟩ | (simp only [World.drewN_drewN]; exact ⟨_, rfl⟩)⟩
      · have l3 : decide ((k : Int) < (xs.length : Int)) = false := decide_eq_false (by omega)
        have l5 : decide ((k : Int) < min (xs.length : Int) (ys.length : Int)) = false := decide_eq_false (by omega)
        clear hlt
        go_wp2_with fail
        go_quiet (fail)
        go_wp2_with fail
        have hc := HC.out
        go_ret
        exact ⟨ret_int (by omega), by first | exact ⟨_, rfl⟩ | (simp only [World.drewN_drewN]; exact ⟨_, rfl⟩)⟩
set_option maxRecDepth 100000 in
theorem isBeginning_c (xs ys : List SEntry) (A : Option Addr) (c : Nat) (B : Option Addr) (d : Nat) (w : World) (hx : RdS kEntry w A c xs) (hy : RdS kEntry w B d ys) :
    Calls Tryz.prog 102 #[.slice A xs.length c, .slice B ys.length d] w fun e w' => e = .returned (.bool (com xs ys == xs.length)) ∧ ∃ m, w' = w.drewN m := by
  go_enter Tryz.func102, Tryz.ntmps102
  go_wp2_with (go_at_call 44; refine (common_c xs ys _ _ _ _ _ hx hy).mono ?_; rintro e w1 ⟨rfl, m, rfl⟩)
  go_ret
  refine ⟨ret_bool ?_, m, rfl⟩
  rw [Bool.eq_iff_iff, beq_iff_eq, beq_iff_eq]; omega
end Go.Proofs.YtdjfehjddfbbjaaGreat

/- Logs that match: the program's logsMatch, the reference's l13Match. -/
set_option linter.unusedVariables false
set_option linter.unusedSimpArgs false
namespace Go.Proofs.YtdjfehjddfbbjaaGreat
open Go Go.RowKit Mk
def isB (a b : List SEntry) : Bool := com a b == a.length
/-- Two nodes' logs of one last view part. -/
def parts (n m : SReplica) : Bool := n.Last == m.Last && (!isB n.Log m.Log && !isB m.Log n.Log)
def MatchP (xs : List SReplica) : Prop := ∀ (i j : Nat) (n m : SReplica), j < i → xs[i]? = some n → xs[j]? = some m → parts n m = false
noncomputable def matchB (c : SCluster) : Bool := @decide (MatchP c.Nodes) (Classical.propDecidable _)
theorem matchB_true {c : SCluster} (h : MatchP c.Nodes) : matchB c = true := @decide_eq_true _ (Classical.propDecidable _) h
theorem matchB_false {c : SCluster} {i j : Nat} {n m : SReplica} (h : j < i) (hi : c.Nodes[i]? = some n) (hj : c.Nodes[j]? = some m) (hp : parts n m = true) : matchB c = false :=
  @decide_eq_false _ (Classical.propDecidable _) fun H => by rw [H i j n m h hi hj] at hp; cases hp
/-- Up to a place (i, j) no two part. -/
def MatchTo (xs : List SReplica) (i j : Nat) : Prop := ∀ (a b : Nat) (n m : SReplica), b < a → (a < i ∨ a = i ∧ b < j) → xs[a]? = some n → xs[b]? = some m → parts n m = false
theorem MatchTo.start (xs : List SReplica) : MatchTo xs 0 0 := fun a b n m h1 h2 => by omega
theorem MatchTo.row {xs : List SReplica} {i j : Nat} (h : MatchTo xs i j) (hj : i ≤ j) : MatchTo xs (i + 1) 0 := fun a b n m h1 h2 => h a b n m h1 (by omega)
theorem MatchTo.step {xs : List SReplica} {i j : Nat} {n m : SReplica} (h : MatchTo xs i j) (hi : xs[i]? = some n) (hj : xs[j]? = some m) (hp : parts n m = false) : MatchTo xs i (j + 1) := by
  intro a b x y h1 h2 ha hb
  by_cases q : a = i ∧ b = j
  · obtain ⟨rfl, rfl⟩ := q
    rw [hi] at ha; rw [hj] at hb
    cases ha; cases hb; exact hp
  · exact h a b x y h1 (by omega) ha hb
theorem MatchTo.done {xs : List SReplica} {i j : Nat} (h : MatchTo xs i j) (hi : xs.length ≤ i) : MatchP xs := by
  intro a b n m h1 ha hb
  have := (List.getElem?_eq_some_iff.1 ha).1
  exact h a b n m h1 (by omega) ha hb
theorem isB_le {a b : List SEntry} (h : ¬ (a.length : Int) ≤ (b.length : Int)) : isB a b = false := by
  have := com_le a b
  unfold isB
  exact beq_eq_false_iff_ne.2 (by omega)
set_option maxRecDepth 100000 in
theorem isBeginningS_c (xs ys : List SEntry) (A : Option Addr) (c : Nat) (B : Option Addr) (d : Nat) (w : World) (hx : RdS kEntry w A c xs) (hy : RdS kEntry w B d ys) :
    Calls Tryz.prog 67 #[.slice A xs.length c, .slice B ys.length d] w fun e w' => e = .returned (.bool (isB xs ys)) ∧ ∃ m, w' = w.drewN m := by
  by_cases h : (xs.length : Int) ≤ (ys.length : Int)
  · have hd : decide ((xs.length : Int) ≤ (ys.length : Int)) = true := decide_eq_true h
    go_enter Tryz.func67, Tryz.ntmps67
    go_wp2_with (go_at_call 106; refine (commonOf_c xs ys _ _ _ _ _ hx hy).mono ?_; rintro e w1 ⟨rfl, m, rfl⟩)
    go_ret
    refine ⟨ret_bool ?_, m, rfl⟩
    unfold isB
    rw [Bool.eq_iff_iff, beq_iff_eq, beq_iff_eq]; omega
  · have hf := isB_le h
    have hd : decide ((xs.length : Int) ≤ (ys.length : Int)) = false := decide_eq_false h
    rw [hf]; clear hf
    go_enter Tryz.func67, Tryz.ntmps67
    go_wp2
    go_ret
    exact ⟨rfl, 0, rfl⟩
theorem isBeg_c (xs ys : List SEntry) (A : Option Addr) (c : Nat) (B : Option Addr) (d : Nat) (w : World) (hx : RdS kEntry w A c xs) (hy : RdS kEntry w B d ys) :
    Calls Tryz.prog 102 #[.slice A xs.length c, .slice B ys.length d] w fun e w' => e = .returned (.bool (isB xs ys)) ∧ ∃ m, w' = w.drewN m := isBeginning_c xs ys A c B d w hx hy
set_option maxRecDepth 100000 in
set_option maxHeartbeats 4000000 in
theorem l13Match_c (c : SCluster) (p : Addr) (w : World) (h : At kCluster w p c) :
    Calls Tryz.prog 64 #[.pointer (some p)] w fun e w' => e = .returned (.bool (matchB c)) ∧ ∃ m, w' = w.drewN m := by
  obtain ⟨A0, c0, A1, c1, A2, c2, hh⟩ := atCluster h
  obtain ⟨f0, f1, f2, h0, h1, h2⟩ := hh
  have hl0 := h0.le63
  clear h h1 h2 f1 f2
  go_enter Tryz.func64, Tryz.ntmps64
  go_wp2_with fail
  go_loopw [3] (fun i W => ∃ k : Nat, k ≤ c.Nodes.length ∧ i = .int .i64 k ∧ MatchTo c.Nodes k 0 ∧ ∃ m, W = w.drewN m) (fun i _ => c.Nodes.length - (intOf i).toNat)
  case atStart => exact ⟨0, Nat.zero_le _, rfl, .start _, 0, rfl⟩
  case round =>
    obtain ⟨k, hk, rfl, hm, q, rfl⟩ := hrel
    by_cases hlt : k < c.Nodes.length
    · have hlt' : (k : Int) < (c.Nodes.length : Int) := by omega
      obtain ⟨a, ea, hx⟩ := h0.at_ hlt
      subst ea
      simp only [show kReplica.sz = 10 from rfl] at hx
      have hn := List.getElem?_eq_getElem hlt
      generalize c.Nodes[k] = n at hx hn
      obtain ⟨B5, d5, B7, d7, B8, d8, B9, d9, hq⟩ := atReplica hx
      obtain ⟨q0, q1, q2, q3, q4, q5, q6, q7, q8, q9, g5, g7, g8, g9⟩ := hq
      have HN := Lib.hid hn
      clear hn hx q0 q1 q2 q3 q6 q7 q8 q9 g7 g8 g9
      go_wp2_with fail
      go_loopw [4] (fun j W => ∃ l : Nat, l ≤ k ∧ j = .int .i64 l ∧ MatchTo c.Nodes k l ∧ ∃ m, W = w.drewN m) (fun j _ => k - (intOf j).toNat)
      case atStart => exact ⟨0, Nat.zero_le _, rfl, hm, q, rfl⟩
      case round =>
        clear hm
        obtain ⟨l, hl, rfl, hm, q', rfl⟩ := hrel
        by_cases hlt2 : l < k
        · have hlt3 : (l : Int) < (k : Int) := by omega
          have hlt4 : l < c.Nodes.length := by omega
          have hlt5 : (l : Int) < (c.Nodes.length : Int) := by omega
          obtain ⟨b, eb, hy⟩ := h0.at_ hlt4
          cases eb
          simp only [show kReplica.sz = 10 from rfl] at hy
          have hn2 := List.getElem?_eq_getElem hlt4
          generalize c.Nodes[l] = n2 at hy hn2
          obtain ⟨C5, e5, C7, e7, C8, e8, C9, e9, hq⟩ := atReplica hy
          obtain ⟨r0, r1, r2, r3, r4, r5, r6, r7, r8, r9, s5, s7, s8, s9⟩ := hq
          have HN2 := Lib.hid hn2
          have HB := Lib.hid (fun (W : World) (hb : Below w.heap.size w W) => isBeginningS_c n.Log n2.Log B5 d5 C5 e5 W (g5.below hb) (s5.below hb))
          have HB2 := Lib.hid (fun (W : World) (hb : Below w.heap.size w W) => isBeginningS_c n2.Log n.Log C5 e5 B5 d5 W (s5.below hb) (g5.below hb))
          have HM := Lib.hid hm
          clear hn2 hy hm r0 r1 r2 r3 r6 r7 r8 r9 s7 s8 s9
          cases e1 : (n.Last == n2.Last) with
          | false =>
            go_wp2_with fail
            go_quiet (fail)
            go_wp2_with fail
            exact ⟨⟨l + 1, hlt2, by go_num, HM.out.step HN.out HN2.out (by simp [parts, e1]), by first | exact ⟨_, rfl⟩ | (simp only [World.drewN_drewN]; exact ⟨_, rfl⟩)⟩, by simp [intOf]; omega⟩
          | true =>
            cases e2 : isB n.Log n2.Log with
            | true =>
              rw [e2] at HB
              go_wp2_with fail
              go_quiet ((first | (go_at_call 67; (with_reducible refine quiet_sum (HB.out _ ?_)); repeat (first | (with_reducible assumption) | (with_reducible exact Below.refl _ _) | (with_reducible apply below_alloc) | (with_reducible apply below_drewN) | (with_reducible apply Below.drew) | (with_reducible refine below_set ?_ (by dsimp only; omega) _) | (with_reducible refine below_trans ?_ (by assumption)))) | (go_at_call 67; (with_reducible refine quiet_sum (HB2.out _ ?_)); repeat (first | (with_reducible assumption) | (with_reducible exact Below.refl _ _) | (with_reducible apply below_alloc) | (with_reducible apply below_drewN) | (with_reducible apply Below.drew) | (with_reducible refine below_set ?_ (by dsimp only; omega) _) | (with_reducible refine below_trans ?_ (by assumption))))))
              go_wp2_with fail
              exact ⟨⟨l + 1, hlt2, by go_num, HM.out.step HN.out HN2.out (by simp [parts, e2]), by first | exact ⟨_, rfl⟩ | (simp only [World.drewN_drewN]; exact ⟨_, rfl⟩)⟩, by simp [intOf]; omega⟩
            | false =>
              rw [e2] at HB
              cases e3 : isB n2.Log n.Log with
              | true =>
                rw [e3] at HB2
                go_wp2_with fail
                go_quiet ((first | (go_at_call 67; (with_reducible refine quiet_sum (HB.out _ ?_)); repeat (first | (with_reducible assumption) | (with_reducible exact Below.refl _ _) | (with_reducible apply below_alloc) | (with_reducible apply below_drewN) | (with_reducible apply Below.drew) | (with_reducible refine below_set ?_ (by dsimp only; omega) _) | (with_reducible refine below_trans ?_ (by assumption)))) | (go_at_call 67; (with_reducible refine quiet_sum (HB2.out _ ?_)); repeat (first | (with_reducible assumption) | (with_reducible exact Below.refl _ _) | (with_reducible apply below_alloc) | (with_reducible apply below_drewN) | (with_reducible apply Below.drew) | (with_reducible refine below_set ?_ (by dsimp only; omega) _) | (with_reducible refine below_trans ?_ (by assumption))))))
                go_wp2_with fail
                exact ⟨⟨l + 1, hlt2, by go_num, HM.out.step HN.out HN2.out (by simp [parts, e3]), by first | exact ⟨_, rfl⟩ | (simp only [World.drewN_drewN]; exact ⟨_, rfl⟩)⟩, by simp [intOf]; omega⟩
              | false =>
                rw [e3] at HB2
                go_wp2_with fail
                go_quiet ((first | (go_at_call 67; (with_reducible refine quiet_sum (HB.out _ ?_)); repeat (first | (with_reducible assumption) | (with_reducible exact Below.refl _ _) | (with_reducible apply below_alloc) | (with_reducible apply below_drewN) | (with_reducible apply Below.drew) | (with_reducible refine below_set ?_ (by dsimp only; omega) _) | (with_reducible refine below_trans ?_ (by assumption)))) | (go_at_call 67; (with_reducible refine quiet_sum (HB2.out _ ?_)); repeat (first | (with_reducible assumption) | (with_reducible exact Below.refl _ _) | (with_reducible apply below_alloc) | (with_reducible apply below_drewN) | (with_reducible apply Below.drew) | (with_reducible refine below_set ?_ (by dsimp only; omega) _) | (with_reducible refine below_trans ?_ (by assumption))))))
                go_wp2_with fail
                go_ret
                exact ⟨ret_bool (matchB_false hlt2 HN.out HN2.out (by unfold parts; rw [e1, e2, e3]; rfl)).symm, by first | exact ⟨_, rfl⟩ | (simp only [World.drewN_drewN]; exact ⟨_, rfl⟩)⟩
        · have hlk : l = k := by omega
          subst hlk
          go_wp2_with fail
          exact ⟨⟨l + 1, hlt, by go_num, hm.row (Nat.le_refl _), q', rfl⟩, by simp [intOf]; omega⟩
    · have HM := Lib.hid (hm.done (by omega))
      clear hm
      go_wp2
      go_ret
      exact ⟨ret_bool (matchB_true HM.out).symm, q, rfl⟩
end Go.Proofs.YtdjfehjddfbbjaaGreat

/- The greatest view; whether its primary has all that is sealed: the program's lastView and primariesHave, the reference's l13Have. -/
set_option linter.unusedVariables false
set_option linter.unusedSimpArgs false
namespace Go.Proofs.YtdjfehjddfbbjaaGreat
open Go Go.RowKit Mk
/-- The greatest view of the normal ones, m being one. -/
def lvL : Int → List SReplica → Int
  | m, [] => m
  | m, n :: ns => lvL (if n.Normal then max m n.View else m) ns
theorem lvL_drop (xs : List SReplica) (m : Int) (k : Nat) (hk : k < xs.length) : lvL m (xs.drop k) = lvL (if xs[k].Normal then max m xs[k].View else m) (xs.drop (k + 1)) := by
  rw [List.drop_eq_getElem_cons hk]; rfl
theorem l1Max_c (a b : Int) (w : World) : Calls Tryz.prog 54 #[.int .i64 a, .int .i64 b] w fun e w' => e = .returned (.int .i64 (max a b)) ∧ w = w' := by
  by_cases h : b < a
  · have hm : max a b = a := by omega
    have HM := Lib.hid hm
    clear hm
    go_enter Tryz.func54, Tryz.ntmps54
    go_wp2
    go_ret; exact ⟨ret_int HM.out.symm, rfl⟩
  · have hm : max a b = b := by omega
    have HM := Lib.hid hm
    clear hm
    go_enter Tryz.func54, Tryz.ntmps54
    go_wp2
    go_ret; exact ⟨ret_int HM.out.symm, rfl⟩
theorem isPrimaryQ_c (n : SReplica) (p : Addr) (w : World) (h : At kReplica w p n) (h0 : 0 ≤ n.View) (h1 : 1 ≤ n.Size) (h2 : n.View ≤ 200) :
    Calls Tryz.prog 89 #[.pointer (some p)] w fun e w' => e = .returned (.bool (isPrim n)) ∧ ∃ m, w' = w.drewN m := by
  obtain ⟨A5, c5, A7, c7, A8, c8, A9, c9, f0, f1, f2, f3, f4, f5, f6, f7, f8, f9, h⟩ := atReplica h
  clear f3 f4 f5 f6 f7 f8 f9 h
  go_enter Tryz.func89, Tryz.ntmps89
  go_wp2_with fail
  go_quiet ((go_at_call 134; (with_reducible refine Calls.quiet_of_same ((primary_c _ _ _ h0 h1 h2).mono fun e w' ⟨he, hw⟩ => ⟨he, hw.symm⟩))))
  go_wp2
  go_ret; exact ⟨rfl, _, rfl⟩
theorem leadsQ_c (n : SReplica) (p : Addr) (w : World) (h : At kReplica w p n) (h0 : 0 ≤ n.View) (h1 : 1 ≤ n.Size) (h2 : n.View ≤ 200) :
    Calls Tryz.prog 40 #[.pointer (some p)] w fun e w' => e = .returned (.bool (leadsB n)) ∧ ∃ m, w' = w.drewN m := by
  obtain ⟨A5, c5, A7, c7, A8, c8, A9, c9, f0, f1, f2, f3, f4, f5, f6, f7, f8, f9, hh⟩ := atReplica h
  clear f0 f1 f2 f4 f5 f6 f7 f8 f9 hh
  go_enter Tryz.func40, Tryz.ntmps40
  go_wp2_with (go_at_call 89; (with_reducible refine (isPrimaryQ_c n p _ h h0 h1 h2).mono ?_); rintro e w' ⟨rfl, m, rfl⟩)
  · go_ret; exact ⟨by simp_all [leadsB], m, rfl⟩
  · go_ret; exact ⟨by simp_all [leadsB], 0, rfl⟩
set_option maxRecDepth 100000 in
set_option maxHeartbeats 1000000 in
theorem lastView_c (c : SCluster) (p : Addr) (w : World) (h : At kCluster w p c) :
    Calls Tryz.prog 103 #[.pointer (some p)] w fun e w' => e = .returned (.int .i64 (lvL (-1) c.Nodes)) ∧ Below w.heap.size w w' := by
  obtain ⟨A0, c0, A1, c1, A2, c2, hh⟩ := atCluster h
  obtain ⟨f0, f1, f2, h0, h1, h2⟩ := hh
  have hl0 := h0.le63
  clear h h1 h2 f1 f2
  go_enter Tryz.func103, Tryz.ntmps103
  go_wp2_with fail
  clear f0
  go_loopw [3, 11] (fun l i W => ∃ k : Nat, k ≤ c.Nodes.length ∧ i = .int .i64 k ∧ ∃ m : Int, l = .int .i64 m ∧ lvL m (c.Nodes.drop k) = lvL (-1) c.Nodes ∧ Below w.heap.size w W) (fun _ i _ => c.Nodes.length - (intOf i).toNat)
  case atStart => exact ⟨0, Nat.zero_le _, rfl, _, rfl, rfl, by repeat (first | (with_reducible assumption) | (with_reducible exact Below.refl _ _) | (with_reducible apply below_alloc) | (with_reducible apply below_drewN) | (with_reducible apply Below.drew) | (with_reducible refine below_set ?_ (by dsimp only; omega) _) | (with_reducible refine below_trans ?_ (by assumption)))⟩
  case round =>
    obtain ⟨k, hk, rfl, m, rfl, hm, hb⟩ := hrel
    by_cases hlt : k < c.Nodes.length
    · have hlt' : (k : Int) < (c.Nodes.length : Int) := by omega
      have hd := lvL_drop c.Nodes m k hlt
      obtain ⟨a, ea, hx⟩ := (h0.below hb).at_ hlt
      subst ea
      simp only [show kReplica.sz = 10 from rfl] at hx
      generalize c.Nodes[k] = n at hx hd
      obtain ⟨B5, d5, B7, d7, B8, d8, B9, d9, hq⟩ := atReplica hx
      obtain ⟨q0, q1, q2, q3, q4, q5, q6, q7, q8, q9, g5, g7, g8, g9⟩ := hq
      clear hx g5 g7 g8 g9
      cases hN : n.Normal with
      | true =>
        rw [hN, if_pos rfl] at hd
        have HM := Lib.hid (hd.symm.trans hm)
        clear hd hm
        go_wp2_with fail
        exact ⟨⟨k + 1, hlt, by go_num, _, by first | rfl | (congr 1; omega), HM.out, by repeat (first | (with_reducible assumption) | (with_reducible exact Below.refl _ _) | (with_reducible apply below_alloc) | (with_reducible apply below_drewN) | (with_reducible apply Below.drew) | (with_reducible refine below_set ?_ (by dsimp only; omega) _) | (with_reducible refine below_trans ?_ (by assumption)))⟩, by simp [intOf]; omega⟩
      | false =>
        rw [hN, if_neg (by simp)] at hd
        have HM := Lib.hid (hd.symm.trans hm)
        clear hd hm
        go_wp2_with fail
        exact ⟨⟨k + 1, hlt, by go_num, _, rfl, HM.out, by repeat (first | (with_reducible assumption) | (with_reducible exact Below.refl _ _) | (with_reducible apply below_alloc) | (with_reducible apply below_drewN) | (with_reducible apply Below.drew) | (with_reducible refine below_set ?_ (by dsimp only; omega) _) | (with_reducible refine below_trans ?_ (by assumption)))⟩, by simp [intOf]; omega⟩
    · have hk' : k = c.Nodes.length := by omega
      rw [hk', List.drop_length] at hm
      subst hk'
      have HM := Lib.hid (show m = lvL (-1) c.Nodes from hm)
      clear hm
      go_wp2
      go_ret; exact ⟨ret_int HM.out, by repeat (first | (with_reducible assumption) | (with_reducible exact Below.refl _ _) | (with_reducible apply below_alloc) | (with_reducible apply below_drewN) | (with_reducible apply Below.drew) | (with_reducible refine below_set ?_ (by dsimp only; omega) _) | (with_reducible refine below_trans ?_ (by assumption)))⟩
/-- A primary of view v hasn't all that is sealed. -/
def lacks (c : SCluster) (v : Int) (n : SReplica) : Bool := leadsB n && (n.View == v && !isB c.Sealed n.Log)
def haveB (c : SCluster) : Bool := !(c.Nodes.any (lacks c (lvL (-1) c.Nodes)))
/-- What the faultless nodes are like: sizes and views. -/
def Fine (n : SReplica) : Prop := (wi n.Size 1 5 = true ∧ wi n.View 0 200 = true) ∧ wi n.Commit 0 n.Log.length = true
theorem repF_fine {n : SReplica} (h : (repF n != 0) = false) : Fine n := by
  unfold repF at h
  split at h
  · cases h
  · rename_i q
    split at h
    · rename_i h3; rw [h3] at h; cases h
    · split at h
      · cases h
      · rename_i q2
        simp only [Bool.not_eq_true', Bool.not_eq_false, Bool.and_eq_true] at q q2
        exact ⟨⟨q.1.1.1, q.1.2⟩, q2⟩
set_option maxRecDepth 100000 in
set_option maxHeartbeats 1000000 in
theorem have1_c (c : SCluster) (p q r : Addr) (v : Int) (n : SReplica) (A5 : Option Addr) (c5 : Nat) (A7 : Option Addr) (c7 : Nat) (A8 : Option Addr) (c8 : Nat) (A9 : Option Addr) (c9 : Nat) (w : World) (hr : w.cell? r = some (.int .i64 v))
    (hq : w.cell? q = some (.pointer (some p))) (hp : At kCluster w p c) (h5 : RdS kEntry w A5 c5 n.Log) (h7 : RdS kInt w A7 c7 n.Oks) (h8 : RdS kBool w A8 c8 n.Asks) (h9 : RdS kDoer w A9 c9 n.Doers) (hc : Fine n) :
    Calls Tryz.prog 104 #[.agg #[.int .i64 n.Id, .int .i64 n.Size, .int .i64 n.View, .bool n.Normal, .int .i64 n.Last, .slice A5 n.Log.length c5, .int .i64 n.Commit, .slice A7 n.Oks.length c7, .slice A8 n.Asks.length c8, .slice A9 n.Doers.length c9], .pointer (some r), .pointer (some q)] w fun e w' => e = .returned (.bool (lacks c v n)) ∧ Below w.heap.size w w' := by
  obtain ⟨⟨e1, e2⟩, _⟩ := hc
  obtain ⟨e1, e1'⟩ := wi_b e1
  obtain ⟨e2, e2'⟩ := wi_b e2
  obtain ⟨D0, d0, D1, d1, D2, d2, hh⟩ := atCluster hp
  obtain ⟨f0, f1, f2, g0, g1, g2⟩ := hh
  have i0 : InReplica w n 29 A5 c5 A7 c7 A8 c8 A9 c9 (w.alloc (.cells #[.int .i64 n.Id, .int .i64 n.Size, .int .i64 n.View, .bool n.Normal, .int .i64 n.Last, .slice A5 n.Log.length c5, .int .i64 n.Commit, .slice A7 n.Oks.length c7, .slice A8 n.Asks.length c8, .slice A9 n.Doers.length c9] 29)) := Below.refl _ _
  have HL := Lib.hid (fun (W : World) (hb : Below (w.alloc (.cells #[.int .i64 n.Id, .int .i64 n.Size, .int .i64 n.View, .bool n.Normal, .int .i64 n.Last, .slice A5 n.Log.length c5, .int .i64 n.Commit, .slice A7 n.Oks.length c7, .slice A8 n.Asks.length c8, .slice A9 n.Doers.length c9] 29)).heap.size (w.alloc (.cells #[.int .i64 n.Id, .int .i64 n.Size, .int .i64 n.View, .bool n.Normal, .int .i64 n.Last, .slice A5 n.Log.length c5, .int .i64 n.Commit, .slice A7 n.Oks.length c7, .slice A8 n.Asks.length c8, .slice A9 n.Doers.length c9] 29)) W) => leadsQ_c n _ W ((i0.step hb).at h5 h7 h8 h9) e2 e1 e2')
  have HI := Lib.hid (fun (W : World) (hb : Below w.heap.size w W) => isBeg_c c.Sealed n.Log D2 d2 A5 c5 W (g2.below hb) (h5.below hb))
  have hbx : Below w.heap.size w (w.alloc (.cells #[.int .i64 n.Id, .int .i64 n.Size, .int .i64 n.View, .bool n.Normal, .int .i64 n.Last, .slice A5 n.Log.length c5, .int .i64 n.Commit, .slice A7 n.Oks.length c7, .slice A8 n.Asks.length c8, .slice A9 n.Doers.length c9] 29)) := below_alloc (Below.refl _ _) _
  have k0 := cell_alloc hr (.cells #[.int .i64 n.Id, .int .i64 n.Size, .int .i64 n.View, .bool n.Normal, .int .i64 n.Last, .slice A5 n.Log.length c5, .int .i64 n.Commit, .slice A7 n.Oks.length c7, .slice A8 n.Asks.length c8, .slice A9 n.Doers.length c9] 29)
  have k1 := cell_alloc hq (.cells #[.int .i64 n.Id, .int .i64 n.Size, .int .i64 n.View, .bool n.Normal, .int .i64 n.Last, .slice A5 n.Log.length c5, .int .i64 n.Commit, .slice A7 n.Oks.length c7, .slice A8 n.Asks.length c8, .slice A9 n.Doers.length c9] 29)
  have k2 := cell_alloc f2 (.cells #[.int .i64 n.Id, .int .i64 n.Size, .int .i64 n.View, .bool n.Normal, .int .i64 n.Last, .slice A5 n.Log.length c5, .int .i64 n.Commit, .slice A7 n.Oks.length c7, .slice A8 n.Asks.length c8, .slice A9 n.Doers.length c9] 29)
  clear hr hq f0 f1 f2
  cases r1 : leadsB n with
  | false =>
    rw [r1] at HL
    have HR := Lib.hid (show lacks c v n = false by unfold lacks; rw [r1]; rfl)
    clear r1 h5 h7 h8 h9 g0 g1 g2 hp
    go_enter Tryz.func104, Tryz.ntmps104
    go_wp2_with fail
    go_quiet ((go_at_call 40; (first | (with_reducible refine Calls.quiet_of (HL.out _ ?_)) | (with_reducible refine quiet_sum (HL.out _ ?_))); repeat (first | (with_reducible assumption) | (with_reducible exact Below.refl _ _) | (with_reducible apply below_alloc) | (with_reducible apply below_drewN) | (with_reducible apply Below.drew) | (with_reducible refine below_set ?_ (by dsimp only; omega) _) | (with_reducible refine below_trans ?_ (by assumption)))))
    go_wp2_with fail
    go_ret
    exact ⟨ret_bool HR.out.symm, by repeat (first | (with_reducible assumption) | (with_reducible exact Below.refl _ _) | (with_reducible apply below_alloc) | (with_reducible apply below_drewN) | (with_reducible apply Below.drew) | (with_reducible refine below_set ?_ (by dsimp only; omega) _) | (with_reducible refine below_trans ?_ (by assumption)))⟩
  | true =>
    rw [r1] at HL
    cases r2 : (n.View == v) with
    | false =>
      have HR := Lib.hid (show lacks c v n = false by unfold lacks; rw [r1, r2]; rfl)
      clear r1 h5 h7 h8 h9 g0 g1 g2 hp
      go_enter Tryz.func104, Tryz.ntmps104
      go_wp2_with fail
      go_quiet ((go_at_call 40; (first | (with_reducible refine Calls.quiet_of (HL.out _ ?_)) | (with_reducible refine quiet_sum (HL.out _ ?_))); repeat (first | (with_reducible assumption) | (with_reducible exact Below.refl _ _) | (with_reducible apply below_alloc) | (with_reducible apply below_drewN) | (with_reducible apply Below.drew) | (with_reducible refine below_set ?_ (by dsimp only; omega) _) | (with_reducible refine below_trans ?_ (by assumption)))))
      go_wp2_with fail
      go_ret
      exact ⟨ret_bool HR.out.symm, by repeat (first | (with_reducible assumption) | (with_reducible exact Below.refl _ _) | (with_reducible apply below_alloc) | (with_reducible apply below_drewN) | (with_reducible apply Below.drew) | (with_reducible refine below_set ?_ (by dsimp only; omega) _) | (with_reducible refine below_trans ?_ (by assumption)))⟩
    | true =>
      have HR := Lib.hid (show lacks c v n = !isB c.Sealed n.Log by unfold lacks; rw [r1, r2]; rfl)
      clear r1 h5 h7 h8 h9 g0 g1 g2 hp
      go_enter Tryz.func104, Tryz.ntmps104
      go_wp2_with fail
      go_quiet ((first | (go_at_call 40; (first | (with_reducible refine Calls.quiet_of (HL.out _ ?_)) | (with_reducible refine quiet_sum (HL.out _ ?_))); repeat (first | (with_reducible assumption) | (with_reducible exact Below.refl _ _) | (with_reducible apply below_alloc) | (with_reducible apply below_drewN) | (with_reducible apply Below.drew) | (with_reducible refine below_set ?_ (by dsimp only; omega) _) | (with_reducible refine below_trans ?_ (by assumption)))) | (go_at_call 102; (first | (with_reducible refine Calls.quiet_of (HI.out _ ?_)) | (with_reducible refine quiet_sum (HI.out _ ?_))); repeat (first | (with_reducible assumption) | (with_reducible exact Below.refl _ _) | (with_reducible apply below_alloc) | (with_reducible apply below_drewN) | (with_reducible apply Below.drew) | (with_reducible refine below_set ?_ (by dsimp only; omega) _) | (with_reducible refine below_trans ?_ (by assumption))))))
      go_wp2_with fail
      go_ret
      exact ⟨ret_bool HR.out.symm, by repeat (first | (with_reducible assumption) | (with_reducible exact Below.refl _ _) | (with_reducible apply below_alloc) | (with_reducible apply below_drewN) | (with_reducible apply Below.drew) | (with_reducible refine below_set ?_ (by dsimp only; omega) _) | (with_reducible refine below_trans ?_ (by assumption)))⟩
set_option maxRecDepth 100000 in
set_option maxHeartbeats 1000000 in
theorem primariesHave_c (c : SCluster) (p : Addr) (w : World) (h : At kCluster w p c) (hcs : ∀ n ∈ c.Nodes, Fine n) :
    Calls Tryz.prog 60 #[.pointer (some p)] w fun e w' => e = .returned (.bool (haveB c)) ∧ Below w.heap.size w w' := by
  obtain ⟨A0, c0, A1, c1, A2, c2, hh⟩ := atCluster h
  obtain ⟨f0, f1, f2, h0, h1, h2⟩ := hh
  have HV := Lib.hid (fun (W : World) (hb : Below w.heap.size w W) => lastView_c c p W (h.below hb))
  go_enter Tryz.func60, Tryz.ntmps60
  generalize hv : lvL (-1) c.Nodes = v at HV
  have HVV := Lib.hid hv
  clear hv
  go_wp2_with fail
  refine (HV.out _ ?_).mono ?_
  · repeat (first | (with_reducible assumption) | (with_reducible exact Below.refl _ _) | (with_reducible apply below_alloc) | (with_reducible apply below_drewN) | (with_reducible apply Below.drew) | (with_reducible refine below_set ?_ (by dsimp only; omega) _) | (with_reducible refine below_trans ?_ (by assumption)))
  rintro e w1 ⟨rfl, hb1⟩
  have y1 := bcell hb1
  have z1 : w.heap.size < w1.heap.size := (by have := hb1.size; simp only [Deep.nblk_alloc] at this; omega)
  have f0' := cell_alloc (cell_below (show Below w.heap.size w w1 by repeat (first | (with_reducible assumption) | (with_reducible exact Below.refl _ _) | (with_reducible apply below_alloc) | (with_reducible apply below_drewN) | (with_reducible apply Below.drew) | (with_reducible refine below_set ?_ (by dsimp only; omega) _) | (with_reducible refine below_trans ?_ (by assumption)))) f0) (.cells #[.int .i64 v] 2)
  go_wp2_with fail
  have hb : Below w.heap.size w w1 := by repeat (first | (with_reducible assumption) | (with_reducible exact Below.refl _ _) | (with_reducible apply below_alloc) | (with_reducible apply below_drewN) | (with_reducible apply Below.drew) | (with_reducible refine below_set ?_ (by dsimp only; omega) _) | (with_reducible refine below_trans ?_ (by assumption)))
  refine (containsFunc_rep 104 #[.pointer (some ⟨w1.heap.size, 0, none⟩), .pointer (some ⟨w.heap.size, 0, none⟩)] (Go.Proofs.enters_of Tryz.func104 (by kernel_rfl) rfl) (lacks c v) c.Nodes A0 c0 _ ?_ ?_).mono ?_
  · exact h0.below (by repeat (first | (with_reducible assumption) | (with_reducible exact Below.refl _ _) | (with_reducible apply below_alloc) | (with_reducible apply below_drewN) | (with_reducible apply Below.drew) | (with_reducible refine below_set ?_ (by dsimp only; omega) _) | (with_reducible refine below_trans ?_ (by assumption))))
  · intro k hk W cs hW hr
    obtain ⟨B5, d5, B7, d7, B8, d8, B9, d9, rfl, g5, g7, g8, g9⟩ := kReplica_open hr
    have l0 := (lies_alloc w #[.pointer (some p)] 83).c0
    have l1 := cell_below hb1 l0
    have bW := below_trans (below_alloc (Below.refl _ _) _) hW
    refine have1_c c p ⟨w.heap.size, 0, none⟩ ⟨w1.heap.size, 0, none⟩ v _ B5 d5 B7 d7 B8 d8 B9 d9 W ?_ ?_ (h.below (below_trans hb bW)) g5 g7 g8 g9 (hcs _ (List.getElem_mem hk))
    · exact cell_below hW ((lies_alloc w1 #[.int .i64 v] _).c0)
    · exact cell_below bW l1
  rintro e w2 ⟨rfl, hb2⟩
  go_wp2_with fail
  go_ret
  exact ⟨ret_bool (by unfold haveB; rw [HVV.out]), by repeat (first | (with_reducible assumption) | (with_reducible exact Below.refl _ _) | (with_reducible apply below_alloc) | (with_reducible apply below_drewN) | (with_reducible apply Below.drew) | (with_reducible refine below_set ?_ (by dsimp only; omega) _) | (with_reducible refine below_trans ?_ (by assumption)))⟩
end Go.Proofs.YtdjfehjddfbbjaaGreat
