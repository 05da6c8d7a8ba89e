/-
  No cell of these rows narrows 'for every input' (looked for: loops, veiled, ifaces, maps, wideKeys, modest, calm, conditions, laid).
  DERIVED. THE GIVEN ROWS OF THIS SEAT. 10 by the template 'for every input the law returns true; each argument reads behind the call as it read before'; 0 by the template 'total and deterministic' (their statements: YtoohhkmlgmeolaaGreatTotals.lean).
  GIVEN WITH THE SEED: the statements are not yours to turn. If you find one false, say at which input.
  Laid BY PROGRAM, IN A SANDBOX (cutbox-rows.mjs): the forced cells as the released guide's own fill.sh prints them over the translation b0055096a514b3c9… (all of the seat's roots in one cut). By AI agents, Wed Nov 11 2026. No macro, syntax, notation, axiom, sorry.
-/
import Derived.Test.YtoohhkmlgmeolaaGreatChecked
import GoSem.Claim
import GoSem.ClaimJoined
import GoSem.ClaimMapViews
import Derived.JoinedTies
import Derived.KernelRfl
namespace Go.Proofs.YtoohhkmlgmeolaaGreat
/- THE CELL 'sum', in the pinned program and in every row, IS THE sha256 OF THE DUMP (.gsa) THAT YtoohhkmlgmeolaaGreatProg.lean LOADS. Nothing in Lean hashes anything: it is a label: what it is worth is what the hold of that sum in a sandbox is worth. -/
noncomputable def Tryz.pinned : Pinned := { name := "ytoohhkmlgmeolaagreat", sum := "b0055096a514b3c9495710e99405daa2921eee24de9f7aaf329d1d3246bcb0e0", checked := Tryz.checked }
namespace Rows
def none {H : Type} : Left H := { results := [], args := [] }

/-- 'laws.FnLasting': WHATEVER THE INPUT: true; the input reads as it did. -/
def fnLastingSpec : ChangeSpec := { name := "fnLasting", fn := fun _ => fun
  | [d] => { results := [.lit (.bool true)], args := [d] }
  | _ => none }
def fnLastingRow : OpenClaim := { program := "ytoohhkmlgmeolaagreat", sum := "b0055096a514b3c9495710e99405daa2921eee24de9f7aaf329d1d3246bcb0e0", func := "loop.example/g00277/laws.FnLasting", spec := "fnLasting", unfollowed := true, recurses := true, apart := false }
def FnLastingSaid : Prop := fnLastingRow.holds Tryz.pinned (OpenSpec.ofChange fnLastingSpec)

/-- ITS FALSE NEIGHBOUR: 'it returns false'. Refute it at one input. -/
def fnLastingWrong : ChangeSpec := { name := "fnLasting", fn := fun _ => fun
  | [d] => { results := [.lit (.bool false)], args := [d] }
  | _ => none }
def FnLastingWrongFalsely : Prop := fnLastingRow.holds Tryz.pinned (OpenSpec.ofChange fnLastingWrong)

/-- 'laws.FnSafe': WHATEVER THE INPUT: true; the input reads as it did. -/
def fnSafeSpec : ChangeSpec := { name := "fnSafe", fn := fun _ => fun
  | [d] => { results := [.lit (.bool true)], args := [d] }
  | _ => none }
def fnSafeRow : OpenClaim := { program := "ytoohhkmlgmeolaagreat", sum := "b0055096a514b3c9495710e99405daa2921eee24de9f7aaf329d1d3246bcb0e0", func := "loop.example/g00277/laws.FnSafe", spec := "fnSafe", unfollowed := true, recurses := true, apart := false }
def FnSafeSaid : Prop := fnSafeRow.holds Tryz.pinned (OpenSpec.ofChange fnSafeSpec)

/-- ITS FALSE NEIGHBOUR: 'it returns false'. Refute it at one input. -/
def fnSafeWrong : ChangeSpec := { name := "fnSafe", fn := fun _ => fun
  | [d] => { results := [.lit (.bool false)], args := [d] }
  | _ => none }
def FnSafeWrongFalsely : Prop := fnSafeRow.holds Tryz.pinned (OpenSpec.ofChange fnSafeWrong)

/-- 'laws.FnEven': WHATEVER THE INPUT: true; the input reads as it did. -/
def fnEvenSpec : ChangeSpec := { name := "fnEven", fn := fun _ => fun
  | [d] => { results := [.lit (.bool true)], args := [d] }
  | _ => none }
def fnEvenRow : OpenClaim := { program := "ytoohhkmlgmeolaagreat", sum := "b0055096a514b3c9495710e99405daa2921eee24de9f7aaf329d1d3246bcb0e0", func := "loop.example/g00277/laws.FnEven", spec := "fnEven", unfollowed := true, recurses := true, apart := false }
def FnEvenSaid : Prop := fnEvenRow.holds Tryz.pinned (OpenSpec.ofChange fnEvenSpec)

/-- ITS FALSE NEIGHBOUR: 'it returns false'. Refute it at one input. -/
def fnEvenWrong : ChangeSpec := { name := "fnEven", fn := fun _ => fun
  | [d] => { results := [.lit (.bool false)], args := [d] }
  | _ => none }
def FnEvenWrongFalsely : Prop := fnEvenRow.holds Tryz.pinned (OpenSpec.ofChange fnEvenWrong)

/-- 'laws.FnSafeMeans': WHATEVER THE INPUT: true; the input reads as it did. -/
def fnSafeMeansSpec : ChangeSpec := { name := "fnSafeMeans", fn := fun _ => fun
  | [d] => { results := [.lit (.bool true)], args := [d] }
  | _ => none }
def fnSafeMeansRow : OpenClaim := { program := "ytoohhkmlgmeolaagreat", sum := "b0055096a514b3c9495710e99405daa2921eee24de9f7aaf329d1d3246bcb0e0", func := "loop.example/g00277/laws.FnSafeMeans", spec := "fnSafeMeans", unfollowed := true, recurses := true, apart := false }
def FnSafeMeansSaid : Prop := fnSafeMeansRow.holds Tryz.pinned (OpenSpec.ofChange fnSafeMeansSpec)

/-- ITS FALSE NEIGHBOUR: 'it returns false'. Refute it at one input. -/
def fnSafeMeansWrong : ChangeSpec := { name := "fnSafeMeans", fn := fun _ => fun
  | [d] => { results := [.lit (.bool false)], args := [d] }
  | _ => none }
def FnSafeMeansWrongFalsely : Prop := fnSafeMeansRow.holds Tryz.pinned (OpenSpec.ofChange fnSafeMeansWrong)

/-- 'laws.FnHears': WHATEVER THE INPUT: true; the input reads as it did. -/
def fnHearsSpec : ChangeSpec := { name := "fnHears", fn := fun _ => fun
  | [d] => { results := [.lit (.bool true)], args := [d] }
  | _ => none }
def fnHearsRow : OpenClaim := { program := "ytoohhkmlgmeolaagreat", sum := "b0055096a514b3c9495710e99405daa2921eee24de9f7aaf329d1d3246bcb0e0", func := "loop.example/g00277/laws.FnHears", spec := "fnHears", unfollowed := true, recurses := true, apart := false }
def FnHearsSaid : Prop := fnHearsRow.holds Tryz.pinned (OpenSpec.ofChange fnHearsSpec)

/-- ITS FALSE NEIGHBOUR: 'it returns false'. Refute it at one input. -/
def fnHearsWrong : ChangeSpec := { name := "fnHears", fn := fun _ => fun
  | [d] => { results := [.lit (.bool false)], args := [d] }
  | _ => none }
def FnHearsWrongFalsely : Prop := fnHearsRow.holds Tryz.pinned (OpenSpec.ofChange fnHearsWrong)

/-- 'laws.FnExactAskAt': WHATEVER THE INPUT: true; the input reads as it did. -/
def fnExactAskAtSpec : ChangeSpec := { name := "fnExactAskAt", fn := fun _ => fun
  | [d1, d2, d3] => { results := [.lit (.bool true)], args := [d1, d2, d3] }
  | _ => none }
def fnExactAskAtRow : OpenClaim := { program := "ytoohhkmlgmeolaagreat", sum := "b0055096a514b3c9495710e99405daa2921eee24de9f7aaf329d1d3246bcb0e0", func := "loop.example/g00277/laws.FnExactAskAt", spec := "fnExactAskAt", unfollowed := true, recurses := true, apart := false }
def FnExactAskAtSaid : Prop := fnExactAskAtRow.holds Tryz.pinned (OpenSpec.ofChange fnExactAskAtSpec)

/-- ITS FALSE NEIGHBOUR: 'it returns false'. Refute it at one input. -/
def fnExactAskAtWrong : ChangeSpec := { name := "fnExactAskAt", fn := fun _ => fun
  | [d1, d2, d3] => { results := [.lit (.bool false)], args := [d1, d2, d3] }
  | _ => none }
def FnExactAskAtWrongFalsely : Prop := fnExactAskAtRow.holds Tryz.pinned (OpenSpec.ofChange fnExactAskAtWrong)

/-- 'laws.FnExactBeatAt': WHATEVER THE INPUT: true; the input reads as it did. -/
def fnExactBeatAtSpec : ChangeSpec := { name := "fnExactBeatAt", fn := fun _ => fun
  | [d1, d2] => { results := [.lit (.bool true)], args := [d1, d2] }
  | _ => none }
def fnExactBeatAtRow : OpenClaim := { program := "ytoohhkmlgmeolaagreat", sum := "b0055096a514b3c9495710e99405daa2921eee24de9f7aaf329d1d3246bcb0e0", func := "loop.example/g00277/laws.FnExactBeatAt", spec := "fnExactBeatAt", unfollowed := true, recurses := true, apart := false }
def FnExactBeatAtSaid : Prop := fnExactBeatAtRow.holds Tryz.pinned (OpenSpec.ofChange fnExactBeatAtSpec)

/-- ITS FALSE NEIGHBOUR: 'it returns false'. Refute it at one input. -/
def fnExactBeatAtWrong : ChangeSpec := { name := "fnExactBeatAt", fn := fun _ => fun
  | [d1, d2] => { results := [.lit (.bool false)], args := [d1, d2] }
  | _ => none }
def FnExactBeatAtWrongFalsely : Prop := fnExactBeatAtRow.holds Tryz.pinned (OpenSpec.ofChange fnExactBeatAtWrong)

/-- 'laws.FnExactRoundCluster': WHATEVER THE INPUT: true; the input reads as it did. -/
def fnExactRoundClusterSpec : ChangeSpec := { name := "fnExactRoundCluster", fn := fun _ => fun
  | [d] => { results := [.lit (.bool true)], args := [d] }
  | _ => none }
def fnExactRoundClusterRow : OpenClaim := { program := "ytoohhkmlgmeolaagreat", sum := "b0055096a514b3c9495710e99405daa2921eee24de9f7aaf329d1d3246bcb0e0", func := "loop.example/g00277/laws.FnExactRoundCluster", spec := "fnExactRoundCluster", unfollowed := true, recurses := true, apart := false }
def FnExactRoundClusterSaid : Prop := fnExactRoundClusterRow.holds Tryz.pinned (OpenSpec.ofChange fnExactRoundClusterSpec)

/-- ITS FALSE NEIGHBOUR: 'it returns false'. Refute it at one input. -/
def fnExactRoundClusterWrong : ChangeSpec := { name := "fnExactRoundCluster", fn := fun _ => fun
  | [d] => { results := [.lit (.bool false)], args := [d] }
  | _ => none }
def FnExactRoundClusterWrongFalsely : Prop := fnExactRoundClusterRow.holds Tryz.pinned (OpenSpec.ofChange fnExactRoundClusterWrong)

/-- 'laws.FnExactRunCluster': WHATEVER THE INPUT: true; the input reads as it did. -/
def fnExactRunClusterSpec : ChangeSpec := { name := "fnExactRunCluster", fn := fun _ => fun
  | [d1, d2] => { results := [.lit (.bool true)], args := [d1, d2] }
  | _ => none }
def fnExactRunClusterRow : OpenClaim := { program := "ytoohhkmlgmeolaagreat", sum := "b0055096a514b3c9495710e99405daa2921eee24de9f7aaf329d1d3246bcb0e0", func := "loop.example/g00277/laws.FnExactRunCluster", spec := "fnExactRunCluster", unfollowed := true, recurses := true, apart := false }
def FnExactRunClusterSaid : Prop := fnExactRunClusterRow.holds Tryz.pinned (OpenSpec.ofChange fnExactRunClusterSpec)

/-- ITS FALSE NEIGHBOUR: 'it returns false'. Refute it at one input. -/
def fnExactRunClusterWrong : ChangeSpec := { name := "fnExactRunCluster", fn := fun _ => fun
  | [d1, d2] => { results := [.lit (.bool false)], args := [d1, d2] }
  | _ => none }
def FnExactRunClusterWrongFalsely : Prop := fnExactRunClusterRow.holds Tryz.pinned (OpenSpec.ofChange fnExactRunClusterWrong)

/-- 'laws.FnExactSettleCluster': WHATEVER THE INPUT: true; the input reads as it did. -/
def fnExactSettleClusterSpec : ChangeSpec := { name := "fnExactSettleCluster", fn := fun _ => fun
  | [d] => { results := [.lit (.bool true)], args := [d] }
  | _ => none }
def fnExactSettleClusterRow : OpenClaim := { program := "ytoohhkmlgmeolaagreat", sum := "b0055096a514b3c9495710e99405daa2921eee24de9f7aaf329d1d3246bcb0e0", func := "loop.example/g00277/laws.FnExactSettleCluster", spec := "fnExactSettleCluster", unfollowed := true, recurses := true, apart := false }
def FnExactSettleClusterSaid : Prop := fnExactSettleClusterRow.holds Tryz.pinned (OpenSpec.ofChange fnExactSettleClusterSpec)

/-- ITS FALSE NEIGHBOUR: 'it returns false'. Refute it at one input. -/
def fnExactSettleClusterWrong : ChangeSpec := { name := "fnExactSettleCluster", fn := fun _ => fun
  | [d] => { results := [.lit (.bool false)], args := [d] }
  | _ => none }
def FnExactSettleClusterWrongFalsely : Prop := fnExactSettleClusterRow.holds Tryz.pinned (OpenSpec.ofChange fnExactSettleClusterWrong)

/- THE SECOND FORM. 'bulk': how many values and letters a reading holds, each counted each time it is reached (what is shared counts as often as it is met; a slice's spare places count too). A statement '..UptoSaid' is the law's where the arguments, and the package variables that the reading takes, are together of bulk at most 1048576: NARROWER than '..Said'. Prove '..Said' where nothing that the law and all that it calls make is longer than what came in: it says more and counts as full. Else prove '..UptoSaid'. A law counts once. -/
mutual
def uptoBulk {H : Type} : DataW H → Nat
  | .lit (.string bytes) => bytes.length + 1
  | .lit _ => 1
  | .nil => 1
  | .ptr d => uptoBulk d + 1
  | .slice elems spare => uptoBulkAll elems + uptoBulkAll spare + 1
  | .agg parts => uptoBulkAll parts + 1
  | .iface _ d => uptoBulk d + 1
  | .map entries => uptoBulkEntries entries + 1
  | .held _ => 1
def uptoBulkAll {H : Type} : List (DataW H) → Nat
  | [] => 0
  | d :: r => uptoBulk d + uptoBulkAll r
def uptoBulkEntries {H : Type} : List (Lit × DataW H) → Nat
  | [] => 0
  | x :: r => uptoBulkEntry x + uptoBulkEntries r
def uptoBulkEntry {H : Type} : Lit × DataW H → Nat
  | (.string bytes, d) => bytes.length + uptoBulk d + 1
  | (_, d) => uptoBulk d + 1
 end
def uptoSmall : (H : Type) → List (DataW H) → Bool := fun _ ds => decide (uptoBulkAll ds ≤ 1048576)
def OpenSpec.upto (s : _root_.Go.ChangeSpec) : _root_.Go.OpenSpec := { _root_.Go.OpenSpec.ofChange s with cond := some uptoSmall }

/-- 'laws.FnLasting', WHERE WHAT IT READS IS OF BULK AT MOST 1048576: true; the input reads as it did. -/
def fnLastingUptoRow : OpenClaim := { program := "ytoohhkmlgmeolaagreat", sum := "b0055096a514b3c9495710e99405daa2921eee24de9f7aaf329d1d3246bcb0e0", func := "loop.example/g00277/laws.FnLasting", spec := "fnLasting", unfollowed := true, recurses := true, apart := false, narrowed := true }
def FnLastingUptoSaid : Prop := fnLastingUptoRow.holds Tryz.pinned (OpenSpec.upto fnLastingSpec)

/-- 'laws.FnSafe', WHERE WHAT IT READS IS OF BULK AT MOST 1048576: true; the input reads as it did. -/
def fnSafeUptoRow : OpenClaim := { program := "ytoohhkmlgmeolaagreat", sum := "b0055096a514b3c9495710e99405daa2921eee24de9f7aaf329d1d3246bcb0e0", func := "loop.example/g00277/laws.FnSafe", spec := "fnSafe", unfollowed := true, recurses := true, apart := false, narrowed := true }
def FnSafeUptoSaid : Prop := fnSafeUptoRow.holds Tryz.pinned (OpenSpec.upto fnSafeSpec)

/-- 'laws.FnEven', WHERE WHAT IT READS IS OF BULK AT MOST 1048576: true; the input reads as it did. -/
def fnEvenUptoRow : OpenClaim := { program := "ytoohhkmlgmeolaagreat", sum := "b0055096a514b3c9495710e99405daa2921eee24de9f7aaf329d1d3246bcb0e0", func := "loop.example/g00277/laws.FnEven", spec := "fnEven", unfollowed := true, recurses := true, apart := false, narrowed := true }
def FnEvenUptoSaid : Prop := fnEvenUptoRow.holds Tryz.pinned (OpenSpec.upto fnEvenSpec)

/-- 'laws.FnSafeMeans', WHERE WHAT IT READS IS OF BULK AT MOST 1048576: true; the input reads as it did. -/
def fnSafeMeansUptoRow : OpenClaim := { program := "ytoohhkmlgmeolaagreat", sum := "b0055096a514b3c9495710e99405daa2921eee24de9f7aaf329d1d3246bcb0e0", func := "loop.example/g00277/laws.FnSafeMeans", spec := "fnSafeMeans", unfollowed := true, recurses := true, apart := false, narrowed := true }
def FnSafeMeansUptoSaid : Prop := fnSafeMeansUptoRow.holds Tryz.pinned (OpenSpec.upto fnSafeMeansSpec)

/-- 'laws.FnHears', WHERE WHAT IT READS IS OF BULK AT MOST 1048576: true; the input reads as it did. -/
def fnHearsUptoRow : OpenClaim := { program := "ytoohhkmlgmeolaagreat", sum := "b0055096a514b3c9495710e99405daa2921eee24de9f7aaf329d1d3246bcb0e0", func := "loop.example/g00277/laws.FnHears", spec := "fnHears", unfollowed := true, recurses := true, apart := false, narrowed := true }
def FnHearsUptoSaid : Prop := fnHearsUptoRow.holds Tryz.pinned (OpenSpec.upto fnHearsSpec)

/-- 'laws.FnExactAskAt', WHERE WHAT IT READS IS OF BULK AT MOST 1048576: true; the input reads as it did. -/
def fnExactAskAtUptoRow : OpenClaim := { program := "ytoohhkmlgmeolaagreat", sum := "b0055096a514b3c9495710e99405daa2921eee24de9f7aaf329d1d3246bcb0e0", func := "loop.example/g00277/laws.FnExactAskAt", spec := "fnExactAskAt", unfollowed := true, recurses := true, apart := false, narrowed := true }
def FnExactAskAtUptoSaid : Prop := fnExactAskAtUptoRow.holds Tryz.pinned (OpenSpec.upto fnExactAskAtSpec)

/-- 'laws.FnExactBeatAt', WHERE WHAT IT READS IS OF BULK AT MOST 1048576: true; the input reads as it did. -/
def fnExactBeatAtUptoRow : OpenClaim := { program := "ytoohhkmlgmeolaagreat", sum := "b0055096a514b3c9495710e99405daa2921eee24de9f7aaf329d1d3246bcb0e0", func := "loop.example/g00277/laws.FnExactBeatAt", spec := "fnExactBeatAt", unfollowed := true, recurses := true, apart := false, narrowed := true }
def FnExactBeatAtUptoSaid : Prop := fnExactBeatAtUptoRow.holds Tryz.pinned (OpenSpec.upto fnExactBeatAtSpec)

/-- 'laws.FnExactRoundCluster', WHERE WHAT IT READS IS OF BULK AT MOST 1048576: true; the input reads as it did. -/
def fnExactRoundClusterUptoRow : OpenClaim := { program := "ytoohhkmlgmeolaagreat", sum := "b0055096a514b3c9495710e99405daa2921eee24de9f7aaf329d1d3246bcb0e0", func := "loop.example/g00277/laws.FnExactRoundCluster", spec := "fnExactRoundCluster", unfollowed := true, recurses := true, apart := false, narrowed := true }
def FnExactRoundClusterUptoSaid : Prop := fnExactRoundClusterUptoRow.holds Tryz.pinned (OpenSpec.upto fnExactRoundClusterSpec)

/-- 'laws.FnExactRunCluster', WHERE WHAT IT READS IS OF BULK AT MOST 1048576: true; the input reads as it did. -/
def fnExactRunClusterUptoRow : OpenClaim := { program := "ytoohhkmlgmeolaagreat", sum := "b0055096a514b3c9495710e99405daa2921eee24de9f7aaf329d1d3246bcb0e0", func := "loop.example/g00277/laws.FnExactRunCluster", spec := "fnExactRunCluster", unfollowed := true, recurses := true, apart := false, narrowed := true }
def FnExactRunClusterUptoSaid : Prop := fnExactRunClusterUptoRow.holds Tryz.pinned (OpenSpec.upto fnExactRunClusterSpec)

/-- 'laws.FnExactSettleCluster', WHERE WHAT IT READS IS OF BULK AT MOST 1048576: true; the input reads as it did. -/
def fnExactSettleClusterUptoRow : OpenClaim := { program := "ytoohhkmlgmeolaagreat", sum := "b0055096a514b3c9495710e99405daa2921eee24de9f7aaf329d1d3246bcb0e0", func := "loop.example/g00277/laws.FnExactSettleCluster", spec := "fnExactSettleCluster", unfollowed := true, recurses := true, apart := false, narrowed := true }
def FnExactSettleClusterUptoSaid : Prop := fnExactSettleClusterUptoRow.holds Tryz.pinned (OpenSpec.upto fnExactSettleClusterSpec)

end Rows
end Go.Proofs.YtoohhkmlgmeolaaGreat
