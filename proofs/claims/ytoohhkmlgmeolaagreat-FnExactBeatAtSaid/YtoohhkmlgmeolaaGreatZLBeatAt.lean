/- The row of the law FnExactBeatAt (written by genrow2.py, own work). -/
import Derived.Test.YtoohhkmlgmeolaaGreatRows
import Derived.Test.YtoohhkmlgmeolaaGreatZQBeatAt
import Derived.Test.YtoohhkmlgmeolaaGreatZOp
import Derived.WalkKit
import Derived.ProofKit
import Derived.OpenShut
import Derived.ChangeOld
import Derived.Below
import Derived.SizedLaws
namespace Go.Proofs.YtoohhkmlgmeolaaGreat.fnExactBeatAt
open Go Go.ChangeShapes Go.WideShapes Go.ChangeAt Go.RowKit Mk
set_option linter.unusedVariables false
theorem own : ownKnob Tryz.prog.godebug = none := by kernel_rfl
theorem laidOut : laidOutB Tryz.prog = true := by kernel_rfl
set_option maxRecDepth 100000 in
theorem lifted (os : Os) (started : os.Started) (H : Type) (enc : TypeId × Value → H) :
    ReturnsInHanded {} Tryz.checked os 9 .any (Rows.fnExactBeatAtSpec.pre6 enc Tryz.prog Tryz.f9 Rows.fnExactBeatAtRow.domain false) (Rows.fnExactBeatAtSpec.post enc Tryz.prog Tryz.f9 false true false false) := by
  refine returnsInHanded_of_change_sized (C := Tryz.checked) own started (by kernel_rfl) Tryz.func9
    (ChangeSpec.witness6 (enc := enc) (C := Tryz.checked) false ⟨#[], #[.agg #[.slice none 0 0, .slice none 0 0, .slice none 0 0], .int .i64 0], []⟩ 8 (by kernel_rfl) (by kernel_rfl) (by kernel_rfl) (by kernel_rfl)) ?_
  intro W base args ds gs before hval0 hW hcnd hsz0 _
  have hval : ∀ (j : Nat) t v, Tryz.f9.params[j]? = some t → args[j]? = some v → Value.okWide Tryz.prog W .any base t v := hval0
  have hW' := hW
  obtain ⟨p, q, hA0, hV, rfl, hfz, hnd⟩ := hW
  have hA : DataW.TrodAll enc Tryz.prog W 0 (fun _ => true) true Tryz.f9.params.toList args.toList ds p := hA0
  rw [Tryz.params9] at hA hval
  obtain ⟨v0, vs0, d0, ds0, p0, q0, hargs0, rfl, rfl, k0, r0⟩ := trodAll_cons hA
  obtain ⟨v1, vs1, d1, ds1, p1, q1, hargs1, rfl, rfl, k1, r1⟩ := trodAll_cons r0
  obtain ⟨rfl, rfl, rfl⟩ := trodAll_nil r1
  obtain rfl : args = #[v0, v1] := by
    cases args
    simp_all
  obtain ⟨rfl, rfl⟩ := trodVars_none hV
  have lt0 : ∀ x ∈ p0, x.block < W.heap.size := by obtain ⟨m, hm⟩ := k0; exact DataW.trod_lt m _ _ _ hm
  have lt1 : ∀ x ∈ p1, x.block < W.heap.size := by obtain ⟨m, hm⟩ := k1; exact DataW.trod_lt m _ _ _ hm
  obtain ⟨cs0, rfl, hcs0⟩ : ∃ cs, v0 = .agg cs ∧ cs.size = Tryz.prog.cellsOf 68 := by
    have h := hval 0 _ v0 rfl rfl
    have hs : structIs Tryz.prog 68 [(64, 0), (65, 1), (66, 2)] = true := by kernel_rfl
    unfold structIs at hs
    split at hs
    · rename_i fs hfs
      exact okWide_struct hfs h
    · cases hs
  obtain ⟨x0, hx0⟩ := opens_arg opensCluster k0
  obtain ⟨A0_0, c0_0, A0_1, c0_1, A0_2, c0_2, he0, h0_0, h0_1, h0_2⟩ := kCluster_open hx0
  have hcs0' : cs0 = #[.slice A0_0 x0.Nodes.length c0_0, .slice A0_1 x0.Mails.length c0_1, .slice A0_2 x0.Sealed.length c0_2] := by
    cases cs0
    simpa [Value.cells] using he0
  subst hcs0'
  obtain ⟨y1, rfl, e1, ep1, _⟩ := open_int Tryz.underlying2 (hval 1 _ v1 rfl rfl) k1
  clear hA0 hval0 hsz0 hval
  refine (law_BeatAt x0 y1 A0_0 c0_0 A0_1 c0_1 A0_2 c0_2 W h0_0 h0_1 h0_2).mono fun e W' ⟨he, bel⟩ => ?_
  subst he
  exact ⟨_, rfl, _, _, _, [], _, [], hW', trodAll_mk1 (shut_bool (by kernel_rfl) _), (trodAll_cons_mk (Below.trod laidOut (by kernel_rfl) (of_decide_eq_true (by kernel_rfl)) k0 bel lt0) (trodAll_cons_mk (Below.trod laidOut (by kernel_rfl) (of_decide_eq_true (by kernel_rfl)) k1 bel lt1) trodAll_mk0)), rfl, bel.frame _, fun h => by cases h⟩
set_option maxHeartbeats 4000000 in
theorem over : Rows.fnExactBeatAtRow.holds Tryz.pinned (OpenSpec.ofChange Rows.fnExactBeatAtSpec) :=
  OpenClaim.holds_of_wide 9 Tryz.f9 rfl rfl rfl rfl rfl rfl rfl ⟨rfl, rfl, rfl, rfl, rfl⟩ rfl rfl rfl rfl rfl (by as_aux_lemma => kernel_rfl) Tryz.func9 (by as_aux_lemma => kernel_rfl)
    (by as_aux_lemma => exact of_decide_eq_true (by kernel_rfl)) (by as_aux_lemma => unfold Func.isWrapper; first | (rw [if_pos (by decide +kernel)]; kernel_rfl) | (rw [if_neg (by decide +kernel)]; exact ⟨rfl, rfl⟩))
    (fun os started H enc _ => lifted os started H enc)
theorem proved : Rows.FnExactBeatAtSaid := over
end Go.Proofs.YtoohhkmlgmeolaaGreat.fnExactBeatAt
namespace Go.Proofs.YtoohhkmlgmeolaaGreat
theorem fnExactBeatAt_holds : Rows.FnExactBeatAtSaid := fnExactBeatAt.proved
#print axioms fnExactBeatAt_holds
end Go.Proofs.YtoohhkmlgmeolaaGreat
