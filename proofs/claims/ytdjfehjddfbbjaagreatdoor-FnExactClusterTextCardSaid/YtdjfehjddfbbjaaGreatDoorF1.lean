/- Logs that begin alike: what common, isBeginning and the reference's CommonOf come to. -/
import Derived.Test.YtdjfehjddfbbjaaGreatDoorTy
import Derived.Test.YtdjfehjddfbbjaaGreatDoorRo
import Derived.Test.YtdjfehjddfbbjaaGreatDoorProg
import Derived.Laws.StructEq
set_option linter.unusedVariables false
set_option linter.unusedSimpArgs false
namespace Go.Proofs.YtdjfehjddfbbjaaGreatDoor
open Go Go.RowKit Mk
theorem quiet_sum {P : Program} {f : FuncId} {args : Array Value} {w : World} {q n : Nat} {v : Value}
    (h : Calls P f args (w.drewN (q + n)) fun e w' => e = .returned v ∧ ∃ m, w' = (w.drewN (q + n)).drewN m) : Calls P f args (w.drewN (q + n)) fun e w'' => e = .returned v ∧ ∃ m, w'' = w.drewN (q + m) :=
  h.mono fun _ _ ⟨he, m, hm⟩ => ⟨he, n + m, by rw [hm, World.drewN_drewN, Nat.add_assoc]⟩
section
variable {P : Program} {d : Nat} {xs ys : Array Value} {f : Field} {fs : List Field} {a b : Value} {r s : Bool} {w : World}
theorem eqf_last (hn : (f.name == "_") = false) (ha : (part f.type xs f.offset).run P w = .ok a w) (hb : (part f.type ys f.offset).run P w = .ok b w) (he : (Op.equalIn d f.type a b).run P w = .ok r w) : (Op.eqFields d xs ys [f]).run P w = .ok r w := by
  have hn' : f.name ≠ "_" := by simpa using hn
  simp only [Op.eqFields, if_pos hn', Sem.run_bind, ha, hb, he, Result.andThen_ok]
  cases r <;> simp
theorem eqf_cons (hn : (f.name == "_") = false) (ha : (part f.type xs f.offset).run P w = .ok a w) (hb : (part f.type ys f.offset).run P w = .ok b w) (he : (Op.equalIn d f.type a b).run P w = .ok r w) (hr : (Op.eqFields d xs ys fs).run P w = .ok s w) : (Op.eqFields d xs ys (f :: fs)).run P w = .ok (r && s) w := by
  have hn' : f.name ≠ "_" := by simpa using hn
  rw [Op.eqFields]
  simp only [if_pos hn', Sem.run_bind, ha, hb, he, Result.andThen_ok]
  cases r
  · simp
  · simpa using hr
theorem eqA_of {t : TypeId} {fs : Array Field} (hu : P.underlying t = some (.struct fs)) (hp : P.stoodInHeld t = false) (h : (Op.eqFields d xs ys fs.toList).run P w = .ok r w) : (Op.equalIn (d + 1) t (.agg xs) (.agg ys)).run P w = .ok r w := by
  have hf : P.fieldsOf t = fs := by simp [Program.fieldsOf, hu]
  rw [run_equalIn_struct (P := P) w d t xs ys (by rw [hf]; exact hu) hp, hf]
  exact h
end
def eqO (x y : SOp) : Bool := x.Kind == y.Kind && (x.Vol == y.Vol && (x.At == y.At && (x.Value == y.Value)))
def eqE (x y : SEntry) : Bool := x.Client == y.Client && (x.Seq == y.Seq && eqO x.Op y.Op)
theorem eqOp_at (d : Nat) (w : World) (x y : SOp) :
    (Op.equalIn (d + 2) 73 (.agg #[.int .i64 x.Kind, .int .i64 x.Vol, .int .i64 x.At, .int .i64 x.Value]) (.agg #[.int .i64 y.Kind, .int .i64 y.Vol, .int .i64 y.At, .int .i64 y.Value])).run Tryz.prog w = .ok (eqO x y) w := by
  refine eqA_of Tryz.underlying73 (by kernel_rfl) ?_
  refine eqf_cons (by rfl) (by go_simp; rfl) (by go_simp; rfl) (by go_simp) ?_
  refine eqf_cons (by rfl) (by go_simp; rfl) (by go_simp; rfl) (by go_simp) ?_
  refine eqf_cons (by rfl) (by go_simp; rfl) (by go_simp; rfl) (by go_simp) ?_
  exact eqf_last (by rfl) (by go_simp; rfl) (by go_simp; rfl) (by go_simp)
theorem eqEntry_at (d : Nat) (w : World) (x y : SEntry) :
    (Op.equalIn (d + 3) 75 (.agg #[.int .i64 x.Client, .int .i64 x.Seq, .int .i64 x.Op.Kind, .int .i64 x.Op.Vol, .int .i64 x.Op.At, .int .i64 x.Op.Value]) (.agg #[.int .i64 y.Client, .int .i64 y.Seq, .int .i64 y.Op.Kind, .int .i64 y.Op.Vol, .int .i64 y.Op.At, .int .i64 y.Op.Value])).run Tryz.prog w = .ok (eqE x y) w := by
  refine eqA_of Tryz.underlying75 (by kernel_rfl) ?_
  refine eqf_cons (by rfl) (by go_simp; rfl) (by go_simp; rfl) (by go_simp) ?_
  refine eqf_cons (by rfl) (by go_simp; rfl) (by go_simp; rfl) (by go_simp) ?_
  exact eqf_last (by rfl) (by go_simp) (by go_simp) (eqOp_at (d + 0) w _ _)
/-- How many entries two logs begin with alike. -/
def com : List SEntry → List SEntry → Nat
  | x :: xs, y :: ys => if eqE x y then com xs ys + 1 else 0
  | _, _ => 0
theorem com_drop (xs ys : List SEntry) (k : Nat) (hx : k < xs.length) (hy : k < ys.length) : com (xs.drop k) (ys.drop k) = if eqE xs[k] ys[k] then com (xs.drop (k + 1)) (ys.drop (k + 1)) + 1 else 0 := by
  rw [List.drop_eq_getElem_cons hx, List.drop_eq_getElem_cons hy]; rfl
theorem com_end (xs ys : List SEntry) (k : Nat) (h : xs.length ≤ k ∨ ys.length ≤ k) : com (xs.drop k) (ys.drop k) = 0 := by
  rcases h with h | h
  · rw [List.drop_of_length_le h]; cases ys.drop k <;> rfl
  · rw [List.drop_of_length_le h]; cases xs.drop k <;> rfl
theorem com_le : ∀ (xs ys : List SEntry), com xs ys ≤ xs.length ∧ com xs ys ≤ ys.length
  | [], ys => by cases ys <;> simp [com]
  | x :: xs, [] => by simp [com]
  | x :: xs, y :: ys => by
    have := com_le xs ys
    unfold com
    split <;> simp <;> omega
theorem com_take : ∀ (n : Nat) (xs ys : List SEntry), com (xs.take n) ys = min n (com xs ys)
  | 0, xs, ys => by cases ys <;> simp [com]
  | n + 1, [], ys => by cases ys <;> simp [com]
  | n + 1, x :: xs, [] => by simp [com]
  | n + 1, x :: xs, y :: ys => by
    rw [List.take_succ_cons]
    unfold com
    have := com_take n xs ys
    split <;> omega
attribute [local go_sem high] eqEntry_at
end Go.Proofs.YtdjfehjddfbbjaaGreatDoor
