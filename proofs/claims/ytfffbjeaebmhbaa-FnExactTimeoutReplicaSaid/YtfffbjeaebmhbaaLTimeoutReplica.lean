/- The row of the law FnExactTimeoutReplica (written by genrow.py, own work). -/
import Derived.Test.YtfffbjeaebmhbaaRows
import Derived.Test.YtfffbjeaebmhbaaH12Timeout
import Derived.Test.YtfffbjeaebmhbaaOp
import Derived.WalkKit
import Derived.ProofKit
import Derived.OpenShut
import Derived.ChangeOld
import Derived.Below
import Derived.SizedLaws
namespace Go.Proofs.Ytfffbjeaebmhbaa.fnExactTimeoutReplica
open Go Go.ChangeShapes Go.WideShapes Go.ChangeAt Go.RowKit Mk
set_option linter.unusedVariables false
theorem own : ownKnob Try.prog.godebug = none := by kernel_rfl
theorem laidOut : laidOutB Try.prog = true := by kernel_rfl
set_option maxRecDepth 100000 in
theorem lifted (os : Os) (started : os.Started) (H : Type) (enc : TypeId × Value → H) :
    ReturnsInHanded {} Try.checked os 13 .any (Rows.fnExactTimeoutReplicaSpec.pre6 enc Try.prog Try.f13 Rows.fnExactTimeoutReplicaRow.domain false) (Rows.fnExactTimeoutReplicaSpec.post enc Try.prog Try.f13 false true false false) := by
  refine returnsInHanded_of_change_sized (C := Try.checked) own started (by kernel_rfl) Try.func13
    (ChangeSpec.witness6 (enc := enc) (C := Try.checked) false ⟨#[], #[.agg #[.int .i64 0, .int .i64 0, .int .i64 0, .bool false, .int .i64 0, .slice none 0 0, .int .i64 0, .slice none 0 0, .slice none 0 0, .slice none 0 0]], []⟩ 8 (by kernel_rfl) (by kernel_rfl) (by kernel_rfl) (by kernel_rfl)) ?_
  intro W base args ds gs before hval0 hW hcnd hsz0 _
  have hval : ∀ (j : Nat) t v, Try.f13.params[j]? = some t → args[j]? = some v → Value.okWide Try.prog W .any base t v := hval0
  have hW' := hW
  obtain ⟨p, q, hA0, hV, rfl, hfz, hnd⟩ := hW
  have hA : DataW.TrodAll enc Try.prog W 0 (fun _ => true) true Try.f13.params.toList args.toList ds p := hA0
  rw [Try.params13] at hA hval
  obtain ⟨v0, vs0, d0, ds0, p0, q0, hargs, rfl, rfl, k0, r0⟩ := trodAll_cons hA
  obtain ⟨rfl, rfl, rfl⟩ := trodAll_nil r0
  obtain rfl : args = #[v0] := by cases args; simp_all
  obtain ⟨rfl, rfl⟩ := trodVars_none hV
  have lt0 : ∀ x ∈ p0, x.block < W.heap.size := by obtain ⟨m, hm⟩ := k0; exact DataW.trod_lt m _ _ _ hm
  obtain ⟨cs, rfl, hcs⟩ : ∃ cs, v0 = .agg cs ∧ cs.size = Try.prog.cellsOf 55 := by
    have h := hval 0 _ v0 rfl rfl
    have hs : structIs Try.prog 55 [(2, 0), (2, 1), (2, 2), (4, 3), (2, 4), (35, 5), (2, 6), (24, 7), (52, 8), (53, 9)] = true := by kernel_rfl
    unfold structIs at hs
    split at hs
    · rename_i fs hfs
      exact okWide_struct hfs h
    · cases hs
  obtain ⟨x, hx⟩ := opens_arg opensReplica k0
  obtain ⟨A5, c5, A7, c7, A8, c8, A9, c9, he, h5, h7, h8, h9⟩ := kReplica_open hx
  have hcs' : cs = #[.int .i64 x.Id, .int .i64 x.Size, .int .i64 x.View, .bool x.Normal, .int .i64 x.Last, .slice A5 x.Log.length c5, .int .i64 x.Commit, .slice A7 x.Oks.length c7, .slice A8 x.Asks.length c8, .slice A9 x.Doers.length c9] := by
    cases cs
    simpa [Value.cells] using he
  subst hcs'
  clear hA0 hval0 hsz0 hval
  refine (law_TimeoutReplica x A5 c5 A7 c7 A8 c8 A9 c9 W h5 h7 h8 h9).mono fun e W' ⟨he, bel⟩ => ?_
  subst he
  exact ⟨_, rfl, _, _, _, [], _, [], hW', trodAll_mk1 (shut_bool (by kernel_rfl) _), (trodAll_cons_mk (Below.trod laidOut (by kernel_rfl) (of_decide_eq_true (by kernel_rfl)) k0 bel lt0) trodAll_mk0), rfl, bel.frame _, fun h => by cases h⟩
theorem over : Rows.fnExactTimeoutReplicaRow.holds Try.pinned (OpenSpec.ofChange Rows.fnExactTimeoutReplicaSpec) :=
  OpenClaim.holds_of_wide 13 Try.f13 rfl rfl rfl rfl rfl rfl rfl ⟨rfl, rfl, rfl, rfl, rfl⟩ rfl rfl rfl rfl rfl (by kernel_rfl) Try.func13 (by kernel_rfl)
    (of_decide_eq_true (by kernel_rfl)) (by unfold Func.isWrapper; first | (rw [if_pos (by decide +kernel)]; kernel_rfl) | (rw [if_neg (by decide +kernel)]; exact ⟨rfl, rfl⟩))
    (fun os started H enc _ => lifted os started H enc)
theorem proved : Rows.FnExactTimeoutReplicaSaid := over
end Go.Proofs.Ytfffbjeaebmhbaa.fnExactTimeoutReplica
namespace Go.Proofs.Ytfffbjeaebmhbaa
theorem fnExactTimeoutReplica_holds : Rows.FnExactTimeoutReplicaSaid := fnExactTimeoutReplica.proved
#print axioms fnExactTimeoutReplica_holds
end Go.Proofs.Ytfffbjeaebmhbaa
