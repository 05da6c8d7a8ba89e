/- The row of the law FnExactSealedOf (written by genrow2.py, own work). -/
import Derived.Test.YtjljnkbiakadeaaRows
import Derived.Test.YtjljnkbiakadeaaQSealedOf
import Derived.Test.YtjljnkbiakadeaaOp
import Derived.WalkKit
import Derived.ProofKit
import Derived.OpenShut
import Derived.ChangeOld
import Derived.Below
import Derived.SizedLaws
namespace Go.Proofs.Ytjljnkbiakadeaa.fnExactSealedOf
open Go Go.ChangeShapes Go.WideShapes Go.ChangeAt Go.RowKit Mk
set_option linter.unusedVariables false
theorem own : ownKnob Try.prog.godebug = none := by kernel_rfl
theorem laidOut : laidOutB Try.prog = true := by kernel_rfl
set_option maxRecDepth 100000 in
theorem lifted (os : Os) (started : os.Started) (H : Type) (enc : TypeId × Value → H) :
    ReturnsInHanded {} Try.checked os 5 .any (Rows.fnExactSealedOfSpec.pre6 enc Try.prog Try.f5 Rows.fnExactSealedOfRow.domain false) (Rows.fnExactSealedOfSpec.post enc Try.prog Try.f5 false true false false) := by
  refine returnsInHanded_of_change_sized (C := Try.checked) own started (by kernel_rfl) Try.func5
    (ChangeSpec.witness6 (enc := enc) (C := Try.checked) false ⟨#[], #[.agg #[.slice none 0 0, .slice none 0 0, .slice none 0 0]], []⟩ 8 (by kernel_rfl) (by kernel_rfl) (by kernel_rfl) (by kernel_rfl)) ?_
  intro W base args ds gs before hval0 hW hcnd hsz0 _
  have hval : ∀ (j : Nat) t v, Try.f5.params[j]? = some t → args[j]? = some v → Value.okWide Try.prog W .any base t v := hval0
  have hW' := hW
  obtain ⟨p, q, hA0, hV, rfl, hfz, hnd⟩ := hW
  have hA : DataW.TrodAll enc Try.prog W 0 (fun _ => true) true Try.f5.params.toList args.toList ds p := hA0
  rw [Try.params5] at hA hval
  obtain ⟨v0, vs0, d0, ds0, p0, q0, hargs0, rfl, rfl, k0, r0⟩ := trodAll_cons hA
  obtain ⟨rfl, rfl, rfl⟩ := trodAll_nil r0
  obtain rfl : args = #[v0] := by
    cases args
    simp_all
  obtain ⟨rfl, rfl⟩ := trodVars_none hV
  have lt0 : ∀ x ∈ p0, x.block < W.heap.size := by obtain ⟨m, hm⟩ := k0; exact DataW.trod_lt m _ _ _ hm
  obtain ⟨cs0, rfl, hcs0⟩ : ∃ cs, v0 = .agg cs ∧ cs.size = Try.prog.cellsOf 54 := by
    have h := hval 0 _ v0 rfl rfl
    have hs : structIs Try.prog 54 [(50, 0), (51, 1), (52, 2)] = true := by kernel_rfl
    unfold structIs at hs
    split at hs
    · rename_i fs hfs
      exact okWide_struct hfs h
    · cases hs
  obtain ⟨x0, hx0⟩ := opens_arg opensCluster k0
  obtain ⟨A0_0, c0_0, A0_1, c0_1, A0_2, c0_2, he0, h0_0, h0_1, h0_2⟩ := kCluster_open hx0
  have hcs0' : cs0 = #[.slice A0_0 x0.Nodes.length c0_0, .slice A0_1 x0.Mails.length c0_1, .slice A0_2 x0.Sealed.length c0_2] := by
    cases cs0
    simpa [Value.cells] using he0
  subst hcs0'
  clear hA0 hval0 hsz0 hval
  refine (law_SealedOf x0 A0_0 c0_0 A0_1 c0_1 A0_2 c0_2 W h0_0 h0_1 h0_2).mono fun e W' ⟨he, bel⟩ => ?_
  subst he
  exact ⟨_, rfl, _, _, _, [], _, [], hW', trodAll_mk1 (shut_bool (by kernel_rfl) _), (trodAll_cons_mk (Below.trod laidOut (by kernel_rfl) (of_decide_eq_true (by kernel_rfl)) k0 bel lt0) trodAll_mk0), rfl, bel.frame _, fun h => by cases h⟩
theorem over : Rows.fnExactSealedOfRow.holds Try.pinned (OpenSpec.ofChange Rows.fnExactSealedOfSpec) :=
  OpenClaim.holds_of_wide 5 Try.f5 rfl rfl rfl rfl rfl rfl rfl ⟨rfl, rfl, rfl, rfl, rfl⟩ rfl rfl rfl rfl rfl (by kernel_rfl) Try.func5 (by kernel_rfl)
    (of_decide_eq_true (by kernel_rfl)) (by unfold Func.isWrapper; first | (rw [if_pos (by decide +kernel)]; kernel_rfl) | (rw [if_neg (by decide +kernel)]; exact ⟨rfl, rfl⟩))
    (fun os started H enc _ => lifted os started H enc)
theorem proved : Rows.FnExactSealedOfSaid := over
end Go.Proofs.Ytjljnkbiakadeaa.fnExactSealedOf
namespace Go.Proofs.Ytjljnkbiakadeaa
theorem fnExactSealedOf_holds : Rows.FnExactSealedOfSaid := fnExactSealedOf.proved
#print axioms fnExactSealedOf_holds
end Go.Proofs.Ytjljnkbiakadeaa
