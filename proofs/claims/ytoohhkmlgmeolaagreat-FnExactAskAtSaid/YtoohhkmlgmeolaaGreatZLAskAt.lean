/- The row of the law FnExactAskAt (written by genrow2.py, own work). -/
import Derived.Test.YtoohhkmlgmeolaaGreatRows
import Derived.Test.YtoohhkmlgmeolaaGreatZQAskAt
import Derived.Test.YtoohhkmlgmeolaaGreatZOp
import Derived.WalkKit
import Derived.ProofKit
import Derived.OpenShut
import Derived.ChangeOld
import Derived.Below
import Derived.SizedLaws
namespace Go.Proofs.YtoohhkmlgmeolaaGreat.fnExactAskAt
open Go Go.ChangeShapes Go.WideShapes Go.ChangeAt Go.RowKit Mk
set_option linter.unusedVariables false
theorem own : ownKnob Tryz.prog.godebug = none := by kernel_rfl
theorem laidOut : laidOutB Tryz.prog = true := by kernel_rfl
set_option maxRecDepth 100000 in
theorem lifted (os : Os) (started : os.Started) (H : Type) (enc : TypeId × Value → H) :
    ReturnsInHanded {} Tryz.checked os 8 .any (Rows.fnExactAskAtSpec.pre6 enc Tryz.prog Tryz.f8 Rows.fnExactAskAtRow.domain false) (Rows.fnExactAskAtSpec.post enc Tryz.prog Tryz.f8 false true false false) := by
  refine returnsInHanded_of_change_sized (C := Tryz.checked) own started (by kernel_rfl) Tryz.func8
    (ChangeSpec.witness6 (enc := enc) (C := Tryz.checked) false ⟨#[], #[.agg #[.slice none 0 0, .slice none 0 0, .slice none 0 0], .int .i64 0, .agg #[.int .i64 0, .int .i64 0, .int .i64 0, .int .i64 0, .int .i64 0, .int .i64 0]], []⟩ 8 (by kernel_rfl) (by kernel_rfl) (by kernel_rfl) (by kernel_rfl)) ?_
  intro W base args ds gs before hval0 hW hcnd hsz0 _
  have hval : ∀ (j : Nat) t v, Tryz.f8.params[j]? = some t → args[j]? = some v → Value.okWide Tryz.prog W .any base t v := hval0
  have hW' := hW
  obtain ⟨p, q, hA0, hV, rfl, hfz, hnd⟩ := hW
  have hA : DataW.TrodAll enc Tryz.prog W 0 (fun _ => true) true Tryz.f8.params.toList args.toList ds p := hA0
  rw [Tryz.params8] at hA hval
  obtain ⟨v0, vs0, d0, ds0, p0, q0, hargs0, rfl, rfl, k0, r0⟩ := trodAll_cons hA
  obtain ⟨v1, vs1, d1, ds1, p1, q1, hargs1, rfl, rfl, k1, r1⟩ := trodAll_cons r0
  obtain ⟨v2, vs2, d2, ds2, p2, q2, hargs2, rfl, rfl, k2, r2⟩ := trodAll_cons r1
  obtain ⟨rfl, rfl, rfl⟩ := trodAll_nil r2
  obtain rfl : args = #[v0, v1, v2] := by
    cases args
    simp_all
  obtain ⟨rfl, rfl⟩ := trodVars_none hV
  have lt0 : ∀ x ∈ p0, x.block < W.heap.size := by obtain ⟨m, hm⟩ := k0; exact DataW.trod_lt m _ _ _ hm
  have lt1 : ∀ x ∈ p1, x.block < W.heap.size := by obtain ⟨m, hm⟩ := k1; exact DataW.trod_lt m _ _ _ hm
  have lt2 : ∀ x ∈ p2, x.block < W.heap.size := by obtain ⟨m, hm⟩ := k2; exact DataW.trod_lt m _ _ _ hm
  obtain ⟨cs0, rfl, hcs0⟩ : ∃ cs, v0 = .agg cs ∧ cs.size = Tryz.prog.cellsOf 68 := by
    have h := hval 0 _ v0 rfl rfl
    have hs : structIs Tryz.prog 68 [(64, 0), (65, 1), (66, 2)] = true := by kernel_rfl
    unfold structIs at hs
    split at hs
    · rename_i fs hfs
      exact okWide_struct hfs h
    · cases hs
  obtain ⟨x0, hx0⟩ := opens_arg opensCluster k0
  obtain ⟨A0_0, c0_0, A0_1, c0_1, A0_2, c0_2, he0, h0_0, h0_1, h0_2⟩ := kCluster_open hx0
  have hcs0' : cs0 = #[.slice A0_0 x0.Nodes.length c0_0, .slice A0_1 x0.Mails.length c0_1, .slice A0_2 x0.Sealed.length c0_2] := by
    cases cs0
    simpa [Value.cells] using he0
  subst hcs0'
  obtain ⟨y1, rfl, e1, ep1, _⟩ := open_int Tryz.underlying2 (hval 1 _ v1 rfl rfl) k1
  obtain ⟨cs2, rfl, hcs2⟩ : ∃ cs, v2 = .agg cs ∧ cs.size = Tryz.prog.cellsOf 71 := by
    have h := hval 2 _ v2 rfl rfl
    have hs : structIs Tryz.prog 71 [(2, 0), (2, 1), (69, 2)] = true := by kernel_rfl
    unfold structIs at hs
    split at hs
    · rename_i fs hfs
      exact okWide_struct hfs h
    · cases hs
  obtain ⟨x2, hx2⟩ := opens_arg opensEntry k2
  have he2 := kEntry_open hx2
  have hcs2' : cs2 = #[.int .i64 x2.Client, .int .i64 x2.Seq, .int .i64 x2.Op.Kind, .int .i64 x2.Op.Vol, .int .i64 x2.Op.At, .int .i64 x2.Op.Value] := by
    cases cs2
    simpa [Value.cells] using he2
  subst hcs2'
  clear hA0 hval0 hsz0 hval
  refine (law_AskAt x0 y1 x2 A0_0 c0_0 A0_1 c0_1 A0_2 c0_2 W h0_0 h0_1 h0_2).mono fun e W' ⟨he, bel⟩ => ?_
  subst he
  exact ⟨_, rfl, _, _, _, [], _, [], hW', trodAll_mk1 (shut_bool (by kernel_rfl) _), (trodAll_cons_mk (Below.trod laidOut (by kernel_rfl) (of_decide_eq_true (by kernel_rfl)) k0 bel lt0) (trodAll_cons_mk (Below.trod laidOut (by kernel_rfl) (of_decide_eq_true (by kernel_rfl)) k1 bel lt1) (trodAll_cons_mk (Below.trod laidOut (by kernel_rfl) (of_decide_eq_true (by kernel_rfl)) k2 bel lt2) trodAll_mk0))), rfl, bel.frame _, fun h => by cases h⟩
set_option maxHeartbeats 4000000 in
theorem over : Rows.fnExactAskAtRow.holds Tryz.pinned (OpenSpec.ofChange Rows.fnExactAskAtSpec) :=
  OpenClaim.holds_of_wide 8 Tryz.f8 rfl rfl rfl rfl rfl rfl rfl ⟨rfl, rfl, rfl, rfl, rfl⟩ rfl rfl rfl rfl rfl (by as_aux_lemma => kernel_rfl) Tryz.func8 (by as_aux_lemma => kernel_rfl)
    (by as_aux_lemma => exact of_decide_eq_true (by kernel_rfl)) (by as_aux_lemma => unfold Func.isWrapper; first | (rw [if_pos (by decide +kernel)]; kernel_rfl) | (rw [if_neg (by decide +kernel)]; exact ⟨rfl, rfl⟩))
    (fun os started H enc _ => lifted os started H enc)
theorem proved : Rows.FnExactAskAtSaid := over
end Go.Proofs.YtoohhkmlgmeolaaGreat.fnExactAskAt
namespace Go.Proofs.YtoohhkmlgmeolaaGreat
theorem fnExactAskAt_holds : Rows.FnExactAskAtSaid := fnExactAskAt.proved
#print axioms fnExactAskAt_holds
end Go.Proofs.YtoohhkmlgmeolaaGreat
