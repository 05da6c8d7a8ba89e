/- The row of the law FnExactEvenCluster (written by genrow.py, own work). -/
import Derived.Test.YtfffbjeaebmhbaaRows
import Derived.Test.YtfffbjeaebmhbaaGEvenCluster
import Derived.Test.YtfffbjeaebmhbaaOp
import Derived.WalkKit
import Derived.ProofKit
import Derived.OpenShut
import Derived.ChangeOld
import Derived.Below
import Derived.SizedLaws
namespace Go.Proofs.Ytfffbjeaebmhbaa.fnExactEvenCluster
open Go Go.ChangeShapes Go.WideShapes Go.ChangeAt Go.RowKit Mk
set_option linter.unusedVariables false
theorem own : ownKnob Try.prog.godebug = none := by kernel_rfl
theorem laidOut : laidOutB Try.prog = true := by kernel_rfl
set_option maxRecDepth 100000 in
theorem lifted (os : Os) (started : os.Started) (H : Type) (enc : TypeId × Value → H) :
    ReturnsInHanded {} Try.checked os 7 .any (Rows.fnExactEvenClusterSpec.pre6 enc Try.prog Try.f7 Rows.fnExactEvenClusterRow.domain false) (Rows.fnExactEvenClusterSpec.post enc Try.prog Try.f7 false true false false) := by
  refine returnsInHanded_of_change_sized (C := Try.checked) own started (by kernel_rfl) Try.func7
    (ChangeSpec.witness6 (enc := enc) (C := Try.checked) false ⟨#[], #[.agg #[.slice none 0 0, .slice none 0 0, .slice none 0 0]], []⟩ 8 (by kernel_rfl) (by kernel_rfl) (by kernel_rfl) (by kernel_rfl)) ?_
  intro W base args ds gs before hval0 hW hcnd hsz0 _
  have hval : ∀ (j : Nat) t v, Try.f7.params[j]? = some t → args[j]? = some v → Value.okWide Try.prog W .any base t v := hval0
  have hW' := hW
  obtain ⟨p, q, hA0, hV, rfl, hfz, hnd⟩ := hW
  have hA : DataW.TrodAll enc Try.prog W 0 (fun _ => true) true Try.f7.params.toList args.toList ds p := hA0
  rw [Try.params7] at hA hval
  obtain ⟨v0, vs0, d0, ds0, p0, q0, hargs, rfl, rfl, k0, r0⟩ := trodAll_cons hA
  obtain ⟨rfl, rfl, rfl⟩ := trodAll_nil r0
  obtain rfl : args = #[v0] := by cases args; simp_all
  obtain ⟨rfl, rfl⟩ := trodVars_none hV
  have lt0 : ∀ x ∈ p0, x.block < W.heap.size := by obtain ⟨m, hm⟩ := k0; exact DataW.trod_lt m _ _ _ hm
  obtain ⟨cs, rfl, hcs⟩ : ∃ cs, v0 = .agg cs ∧ cs.size = Try.prog.cellsOf 37 := by
    have h := hval 0 _ v0 rfl rfl
    have hs : structIs Try.prog 37 [(33, 0), (34, 1), (35, 2)] = true := by kernel_rfl
    unfold structIs at hs
    split at hs
    · rename_i fs hfs
      exact okWide_struct hfs h
    · cases hs
  obtain ⟨x, hx⟩ := opens_arg opensCluster k0
  obtain ⟨A0, c0, A1, c1, A2, c2, he, h0, h1, h2⟩ := kCluster_open hx
  have hcs' : cs = #[.slice A0 x.Nodes.length c0, .slice A1 x.Mails.length c1, .slice A2 x.Sealed.length c2] := by
    cases cs
    simpa [Value.cells] using he
  subst hcs'
  clear hA0 hval0 hsz0 hval
  refine (law_EvenCluster x A0 c0 A1 c1 A2 c2 W h0 h1 h2).mono fun e W' ⟨he, bel⟩ => ?_
  subst he
  exact ⟨_, rfl, _, _, _, [], _, [], hW', trodAll_mk1 (shut_bool (by kernel_rfl) _), (trodAll_cons_mk (Below.trod laidOut (by kernel_rfl) (of_decide_eq_true (by kernel_rfl)) k0 bel lt0) trodAll_mk0), rfl, bel.frame _, fun h => by cases h⟩
theorem over : Rows.fnExactEvenClusterRow.holds Try.pinned (OpenSpec.ofChange Rows.fnExactEvenClusterSpec) :=
  OpenClaim.holds_of_wide 7 Try.f7 rfl rfl rfl rfl rfl rfl rfl ⟨rfl, rfl, rfl, rfl, rfl⟩ rfl rfl rfl rfl rfl (by kernel_rfl) Try.func7 (by kernel_rfl)
    (of_decide_eq_true (by kernel_rfl)) (by unfold Func.isWrapper; first | (rw [if_pos (by decide +kernel)]; kernel_rfl) | (rw [if_neg (by decide +kernel)]; exact ⟨rfl, rfl⟩))
    (fun os started H enc _ => lifted os started H enc)
theorem proved : Rows.FnExactEvenClusterSaid := over
end Go.Proofs.Ytfffbjeaebmhbaa.fnExactEvenCluster
namespace Go.Proofs.Ytfffbjeaebmhbaa
theorem fnExactEvenCluster_holds : Rows.FnExactEvenClusterSaid := fnExactEvenCluster.proved
#print axioms fnExactEvenCluster_holds
end Go.Proofs.Ytfffbjeaebmhbaa
