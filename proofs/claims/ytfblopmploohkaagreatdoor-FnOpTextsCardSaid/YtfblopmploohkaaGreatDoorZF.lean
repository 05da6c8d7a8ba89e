/- Logs that begin alike: what common, isBeginning and the reference's CommonOf come to. -/
import Derived.Test.YtfblopmploohkaaGreatDoorZTy
import Derived.Test.YtfblopmploohkaaGreatDoorZRo
import Derived.Test.YtfblopmploohkaaGreatDoorProg
import Derived.Laws.StructEq
import Derived.Test.YtfblopmploohkaaGreatDoorZB
set_option linter.unusedVariables false
set_option linter.unusedSimpArgs false
namespace Go.Proofs.YtfblopmploohkaaGreatDoor
open Go Go.RowKit Mk
theorem quiet_sum {P : Program} {f : FuncId} {args : Array Value} {w : World} {q n : Nat} {v : Value}
    (h : Calls P f args (w.drewN (q + n)) fun e w' => e = .returned v ∧ ∃ m, w' = (w.drewN (q + n)).drewN m) : Calls P f args (w.drewN (q + n)) fun e w'' => e = .returned v ∧ ∃ m, w'' = w.drewN (q + m) :=
  h.mono fun _ _ ⟨he, m, hm⟩ => ⟨he, n + m, by rw [hm, World.drewN_drewN, Nat.add_assoc]⟩
section
variable {P : Program} {d : Nat} {xs ys : Array Value} {f : Field} {fs : List Field} {a b : Value} {r s : Bool} {w : World}
theorem eqf_last (hn : (f.name == "_") = false) (ha : (part f.type xs f.offset).run P w = .ok a w) (hb : (part f.type ys f.offset).run P w = .ok b w) (he : (Op.equalIn d f.type a b).run P w = .ok r w) : (Op.eqFields d xs ys [f]).run P w = .ok r w := by
  have hn' : f.name ≠ "_" := by simpa using hn
  simp only [Op.eqFields, if_pos hn', Sem.run_bind, ha, hb, he, Result.andThen_ok]
  cases r <;> simp
theorem eqf_cons (hn : (f.name == "_") = false) (ha : (part f.type xs f.offset).run P w = .ok a w) (hb : (part f.type ys f.offset).run P w = .ok b w) (he : (Op.equalIn d f.type a b).run P w = .ok r w) (hr : (Op.eqFields d xs ys fs).run P w = .ok s w) : (Op.eqFields d xs ys (f :: fs)).run P w = .ok (r && s) w := by
  have hn' : f.name ≠ "_" := by simpa using hn
  rw [Op.eqFields]
  simp only [if_pos hn', Sem.run_bind, ha, hb, he, Result.andThen_ok]
  cases r
  · simp
  · simpa using hr
theorem eqA_of {t : TypeId} {fs : Array Field} (hu : P.underlying t = some (.struct fs)) (hp : P.stoodInHeld t = false) (h : (Op.eqFields d xs ys fs.toList).run P w = .ok r w) : (Op.equalIn (d + 1) t (.agg xs) (.agg ys)).run P w = .ok r w := by
  have hf : P.fieldsOf t = fs := by simp [Program.fieldsOf, hu]
  rw [run_equalIn_struct (P := P) w d t xs ys (by rw [hf]; exact hu) hp, hf]
  exact h
end
def eqO (x y : SOp) : Bool := x.Kind == y.Kind && (x.Vol == y.Vol && (x.At == y.At && (x.Value == y.Value)))
def eqE (x y : SEntry) : Bool := x.Client == y.Client && (x.Seq == y.Seq && eqO x.Op y.Op)
theorem eqOp_at (d : Nat) (w : World) (x y : SOp) :
    (Op.equalIn (d + 2) 25 (.agg #[.int .i64 x.Kind, .int .i64 x.Vol, .int .i64 x.At, .int .i64 x.Value]) (.agg #[.int .i64 y.Kind, .int .i64 y.Vol, .int .i64 y.At, .int .i64 y.Value])).run Tryz.prog w = .ok (eqO x y) w := by
  refine eqA_of Tryz.underlying25 (by kernel_rfl) ?_
  refine eqf_cons (by rfl) (by go_simp; rfl) (by go_simp; rfl) (by go_simp) ?_
  refine eqf_cons (by rfl) (by go_simp; rfl) (by go_simp; rfl) (by go_simp) ?_
  refine eqf_cons (by rfl) (by go_simp; rfl) (by go_simp; rfl) (by go_simp) ?_
  exact eqf_last (by rfl) (by go_simp; rfl) (by go_simp; rfl) (by go_simp)
theorem eqEntry_at (d : Nat) (w : World) (x y : SEntry) :
    (Op.equalIn (d + 3) 46 (.agg #[.int .i64 x.Client, .int .i64 x.Seq, .int .i64 x.Op.Kind, .int .i64 x.Op.Vol, .int .i64 x.Op.At, .int .i64 x.Op.Value]) (.agg #[.int .i64 y.Client, .int .i64 y.Seq, .int .i64 y.Op.Kind, .int .i64 y.Op.Vol, .int .i64 y.Op.At, .int .i64 y.Op.Value])).run Tryz.prog w = .ok (eqE x y) w := by
  refine eqA_of Tryz.underlying46 (by kernel_rfl) ?_
  refine eqf_cons (by rfl) (by go_simp; rfl) (by go_simp; rfl) (by go_simp) ?_
  refine eqf_cons (by rfl) (by go_simp; rfl) (by go_simp; rfl) (by go_simp) ?_
  exact eqf_last (by rfl) (by go_simp) (by go_simp) (eqOp_at (d + 0) w _ _)
/-- How many entries two logs begin with alike. -/
def com : List SEntry → List SEntry → Nat
  | x :: xs, y :: ys => if eqE x y then com xs ys + 1 else 0
  | _, _ => 0
theorem com_drop (xs ys : List SEntry) (k : Nat) (hx : k < xs.length) (hy : k < ys.length) : com (xs.drop k) (ys.drop k) = if eqE xs[k] ys[k] then com (xs.drop (k + 1)) (ys.drop (k + 1)) + 1 else 0 := by
  rw [List.drop_eq_getElem_cons hx, List.drop_eq_getElem_cons hy]; rfl
theorem com_end (xs ys : List SEntry) (k : Nat) (h : xs.length ≤ k ∨ ys.length ≤ k) : com (xs.drop k) (ys.drop k) = 0 := by
  rcases h with h | h
  · rw [List.drop_of_length_le h]; cases ys.drop k <;> rfl
  · rw [List.drop_of_length_le h]; cases xs.drop k <;> rfl
theorem com_le : ∀ (xs ys : List SEntry), com xs ys ≤ xs.length ∧ com xs ys ≤ ys.length
  | [], ys => by cases ys <;> simp [com]
  | x :: xs, [] => by simp [com]
  | x :: xs, y :: ys => by
    have := com_le xs ys
    unfold com
    split <;> simp <;> omega
theorem com_take : ∀ (n : Nat) (xs ys : List SEntry), com (xs.take n) ys = min n (com xs ys)
  | 0, xs, ys => by cases ys <;> simp [com]
  | n + 1, [], ys => by cases ys <;> simp [com]
  | n + 1, x :: xs, [] => by simp [com]
  | n + 1, x :: xs, y :: ys => by
    rw [List.take_succ_cons]
    unfold com
    have := com_take n xs ys
    split <;> omega
attribute [local go_sem high] eqEntry_at
set_option maxRecDepth 100000 in
set_option maxHeartbeats 1000000 in
theorem common_c (xs ys : List SEntry) (A : Option Addr) (c : Nat) (B : Option Addr) (d : Nat) (w : World) (hx : RdS kEntry w A c xs) (hy : RdS kEntry w B d ys) :
    Calls Tryz.prog 219 #[.slice A xs.length c, .slice B ys.length d] w fun e w' => e = .returned (.int .i64 (com xs ys)) ∧ ∃ m, w' = w.drewN m := by
  have hl1 := hx.le63
  have hl2 := hy.le63
  go_enter Tryz.func219, Tryz.ntmps219
  go_wp2_with fail
  go_loopw [5] (fun i W => ∃ k : Nat, k ≤ xs.length ∧ k ≤ ys.length ∧ i = .int .i64 k ∧ com xs ys = k + com (xs.drop k) (ys.drop k) ∧ ∃ m, W = w.drewN m) (fun i _ => xs.length - (intOf i).toNat)
  case atStart => exact ⟨0, Nat.zero_le _, Nat.zero_le _, rfl, by simp, 0, rfl⟩
  case round =>
    obtain ⟨k, h1, h2, rfl, hc, m, rfl⟩ := hrel
    have hb : Below w.heap.size w (w.drewN m) := below_drewN (Below.refl _ _) m
    by_cases hlt : k < xs.length ∧ k < ys.length
    · obtain ⟨l1, l2⟩ := hlt
      have l3 : (k : Int) < (xs.length : Int) := by omega
      have l4 : (k : Int) < (ys.length : Int) := by omega
      have l5 : (k : Int) < min (xs.length : Int) (ys.length : Int) := by omega
      have hd := com_drop xs ys k l1 l2
      obtain ⟨a, ea, gx⟩ := hx.at_ l1
      obtain ⟨b, eb, gy⟩ := hy.at_ l2
      subst ea
      subst eb
      simp only [show kEntry.sz = 6 from rfl] at gx gy
      generalize xs[k] = x at gx hd
      generalize ys[k] = y at gy hd
      obtain ⟨p0, p1, p2, p3, p4, p5⟩ := atEntry gx
      obtain ⟨q0, q1, q2, q3, q4, q5⟩ := atEntry gy
      have HD := Lib.hid hd
      have HC := Lib.hid hc
      clear hd hc gx gy
      cases q : eqE x y with
      | true =>
        go_wp2_with fail
        go_quiet (fail)
        go_wp2_with fail
        have hd := HD.out
        rw [q, if_pos rfl] at hd
        have hc := HC.out
        exact ⟨⟨k + 1, l1, l2, by go_num, by omega, by first | exact ⟨_, rfl⟩ | (simp only [World.drewN_drewN]; exact ⟨_, rfl⟩)⟩, by simp [intOf]; omega⟩
      | false =>
        go_wp2_with fail
        go_quiet (fail)
        go_wp2_with fail
        have hd := HD.out
        rw [q, if_neg (by simp)] at hd
        have hc := HC.out
        go_ret
        exact ⟨ret_int (by omega), by first | exact ⟨_, rfl⟩ | (simp only [World.drewN_drewN]; exact ⟨_, rfl⟩)⟩
    · have he := com_end xs ys k (by omega)
      have HC := Lib.hid hc
      clear hc
      by_cases l1 : k < xs.length
      · have l3 : (k : Int) < (xs.length : Int) := by omega
        have l4 : decide ((k : Int) < (ys.length : Int)) = false := decide_eq_false (by omega)
        have l6 : decide (k < ys.length) = false := decide_eq_false (by omega)
        have l5 : decide ((k : Int) < min (xs.length : Int) (ys.length : Int)) = false := decide_eq_false (by omega)
        clear hlt
        go_wp2_with fail
        go_quiet (fail)
        go_wp2_with fail
        have hc := HC.out
        go_ret
        exact ⟨ret_int (by omega), by first | exact ⟨_, rfl⟩ | (simp only [World.drewN_drewN]; exact ⟨_, rfl⟩)⟩
      · have l3 : decide ((k : Int) < (xs.length : Int)) = false := decide_eq_false (by omega)
        have l5 : decide ((k : Int) < min (xs.length : Int) (ys.length : Int)) = false := decide_eq_false (by omega)
        clear hlt
        go_wp2_with fail
        go_quiet (fail)
        go_wp2_with fail
        have hc := HC.out
        go_ret
        exact ⟨ret_int (by omega), by first | exact ⟨_, rfl⟩ | (simp only [World.drewN_drewN]; exact ⟨_, rfl⟩)⟩
end Go.Proofs.YtfblopmploohkaaGreatDoor

/- Logs that match: the program's logsMatch, the reference's l13Match. -/
set_option linter.unusedVariables false
set_option linter.unusedSimpArgs false
namespace Go.Proofs.YtfblopmploohkaaGreatDoor
open Go Go.RowKit Mk
def isB (a b : List SEntry) : Bool := com a b == a.length
/-- Two nodes' logs of one last view part. -/
def parts (n m : SReplica) : Bool := n.Last == m.Last && (!isB n.Log m.Log && !isB m.Log n.Log)
def MatchP (xs : List SReplica) : Prop := ∀ (i j : Nat) (n m : SReplica), j < i → xs[i]? = some n → xs[j]? = some m → parts n m = false
noncomputable def matchB (c : SCluster) : Bool := @decide (MatchP c.Nodes) (Classical.propDecidable _)
theorem matchB_true {c : SCluster} (h : MatchP c.Nodes) : matchB c = true := @decide_eq_true _ (Classical.propDecidable _) h
theorem matchB_false {c : SCluster} {i j : Nat} {n m : SReplica} (h : j < i) (hi : c.Nodes[i]? = some n) (hj : c.Nodes[j]? = some m) (hp : parts n m = true) : matchB c = false :=
  @decide_eq_false _ (Classical.propDecidable _) fun H => by rw [H i j n m h hi hj] at hp; cases hp
/-- Up to a place (i, j) no two part. -/
def MatchTo (xs : List SReplica) (i j : Nat) : Prop := ∀ (a b : Nat) (n m : SReplica), b < a → (a < i ∨ a = i ∧ b < j) → xs[a]? = some n → xs[b]? = some m → parts n m = false
theorem MatchTo.start (xs : List SReplica) : MatchTo xs 0 0 := fun a b n m h1 h2 => by omega
theorem MatchTo.row {xs : List SReplica} {i j : Nat} (h : MatchTo xs i j) (hj : i ≤ j) : MatchTo xs (i + 1) 0 := fun a b n m h1 h2 => h a b n m h1 (by omega)
theorem MatchTo.step {xs : List SReplica} {i j : Nat} {n m : SReplica} (h : MatchTo xs i j) (hi : xs[i]? = some n) (hj : xs[j]? = some m) (hp : parts n m = false) : MatchTo xs i (j + 1) := by
  intro a b x y h1 h2 ha hb
  by_cases q : a = i ∧ b = j
  · obtain ⟨rfl, rfl⟩ := q
    rw [hi] at ha; rw [hj] at hb
    cases ha; cases hb; exact hp
  · exact h a b x y h1 (by omega) ha hb
theorem MatchTo.done {xs : List SReplica} {i j : Nat} (h : MatchTo xs i j) (hi : xs.length ≤ i) : MatchP xs := by
  intro a b n m h1 ha hb
  have := (List.getElem?_eq_some_iff.1 ha).1
  exact h a b n m h1 (by omega) ha hb
theorem isB_le {a b : List SEntry} (h : ¬ (a.length : Int) ≤ (b.length : Int)) : isB a b = false := by
  have := com_le a b
  unfold isB
  exact beq_eq_false_iff_ne.2 (by omega)
end Go.Proofs.YtfblopmploohkaaGreatDoor

/- The greatest view; whether its primary has all that is sealed: the program's lastView and primariesHave, the reference's l13Have. -/
set_option linter.unusedVariables false
set_option linter.unusedSimpArgs false
namespace Go.Proofs.YtfblopmploohkaaGreatDoor
open Go Go.RowKit Mk
/-- The greatest view of the normal ones, m being one. -/
def lvL : Int → List SReplica → Int
  | m, [] => m
  | m, n :: ns => lvL (if n.Normal then max m n.View else m) ns
theorem lvL_drop (xs : List SReplica) (m : Int) (k : Nat) (hk : k < xs.length) : lvL m (xs.drop k) = lvL (if xs[k].Normal then max m xs[k].View else m) (xs.drop (k + 1)) := by
  rw [List.drop_eq_getElem_cons hk]; rfl
theorem isPrimaryQ_c (n : SReplica) (p : Addr) (w : World) (h : At kReplica w p n) (h0 : 0 ≤ n.View) (h1 : 1 ≤ n.Size) (h2 : n.View ≤ 200) :
    Calls Tryz.prog 56 #[.pointer (some p)] w fun e w' => e = .returned (.bool (isPrim n)) ∧ ∃ m, w' = w.drewN m := by
  obtain ⟨A5, c5, A7, c7, A8, c8, A9, c9, f0, f1, f2, f3, f4, f5, f6, f7, f8, f9, h⟩ := atReplica h
  clear f3 f4 f5 f6 f7 f8 f9 h
  go_enter Tryz.func56, Tryz.ntmps56
  go_wp2_with fail
  go_quiet ((go_at_call 84; (with_reducible refine Calls.quiet_of_same ((primary_c _ _ _ h0 h1 h2).mono fun e w' ⟨he, hw⟩ => ⟨he, hw.symm⟩))))
  go_wp2
  go_ret; exact ⟨rfl, _, rfl⟩
theorem leadsQ_c (n : SReplica) (p : Addr) (w : World) (h : At kReplica w p n) (h0 : 0 ≤ n.View) (h1 : 1 ≤ n.Size) (h2 : n.View ≤ 200) :
    Calls Tryz.prog 58 #[.pointer (some p)] w fun e w' => e = .returned (.bool (leadsB n)) ∧ ∃ m, w' = w.drewN m := by
  obtain ⟨A5, c5, A7, c7, A8, c8, A9, c9, f0, f1, f2, f3, f4, f5, f6, f7, f8, f9, hh⟩ := atReplica h
  clear f0 f1 f2 f4 f5 f6 f7 f8 f9 hh
  go_enter Tryz.func58, Tryz.ntmps58
  go_wp2_with (go_at_call 56; (with_reducible refine (isPrimaryQ_c n p _ h h0 h1 h2).mono ?_); rintro e w' ⟨rfl, m, rfl⟩)
  · go_ret; exact ⟨by simp_all [leadsB], m, rfl⟩
  · go_ret; exact ⟨by simp_all [leadsB], 0, rfl⟩
/-- A primary of view v hasn't all that is sealed. -/
def lacks (c : SCluster) (v : Int) (n : SReplica) : Bool := leadsB n && (n.View == v && !isB c.Sealed n.Log)
def haveB (c : SCluster) : Bool := !(c.Nodes.any (lacks c (lvL (-1) c.Nodes)))
/-- What the faultless nodes are like: sizes and views. -/
def Fine (n : SReplica) : Prop := (wi n.Size 1 5 = true ∧ wi n.View 0 200 = true) ∧ wi n.Commit 0 n.Log.length = true
theorem repF_fine {n : SReplica} (h : (repF n != 0) = false) : Fine n := by
  unfold repF at h
  split at h
  · cases h
  · rename_i q
    split at h
    · rename_i h3; rw [h3] at h; cases h
    · split at h
      · cases h
      · rename_i q2
        simp only [Bool.not_eq_true', Bool.not_eq_false, Bool.and_eq_true] at q q2
        exact ⟨⟨q.1.1.1, q.1.2⟩, q2⟩
end Go.Proofs.YtfblopmploohkaaGreatDoor
