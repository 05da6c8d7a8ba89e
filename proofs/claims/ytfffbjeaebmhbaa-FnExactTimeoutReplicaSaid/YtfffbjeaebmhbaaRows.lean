/-
  No cell of these rows narrows 'for every input' (looked for: loops, veiled, ifaces, maps, wideKeys, modest, calm, conditions, laid).
  DERIVED. THE GIVEN ROWS OF THIS SEAT. 11 by the template 'for every input the law returns true; each argument reads behind the call as it read before'; 0 by the template 'total and deterministic' (their statements: YtfffbjeaebmhbaaTotals.lean).
  GIVEN WITH THE SEED: the statements are not yours to turn. If you find one false, say at which input.
  Laid BY PROGRAM, IN A SANDBOX (cutbox-rows.mjs): the forced cells as the released guide's own fill.sh prints them over the translation 439d2224fe80e6ed… (all of the seat's roots in one cut). By AI agents, Wed Nov 11 2026. No macro, syntax, notation, axiom, sorry.
-/
import Derived.Test.YtfffbjeaebmhbaaChecked
import GoSem.Claim
import GoSem.ClaimJoined
import GoSem.ClaimMapViews
import Derived.JoinedTies
import Derived.KernelRfl
namespace Go.Proofs.Ytfffbjeaebmhbaa
/- THE CELL 'sum', in the pinned program and in every row, IS THE sha256 OF THE DUMP (.gsa) THAT YtfffbjeaebmhbaaProg.lean LOADS. Nothing in Lean hashes anything: it is a label: what it is worth is what the hold of that sum in a sandbox is worth. -/
noncomputable def Try.pinned : Pinned := { name := "ytfffbjeaebmhbaa", sum := "439d2224fe80e6ed046e12b7874ae79c4db420ebb57544b4dbefcfb794dd9d39", checked := Try.checked }
namespace Rows
def none {H : Type} : Left H := { results := [], args := [] }

/-- 'laws.FnExactJoinChunks': WHATEVER THE INPUT: true; the input reads as it did. -/
def fnExactJoinChunksSpec : ChangeSpec := { name := "fnExactJoinChunks", fn := fun _ => fun
  | [d] => { results := [.lit (.bool true)], args := [d] }
  | _ => none }
def fnExactJoinChunksRow : OpenClaim := { program := "ytfffbjeaebmhbaa", sum := "439d2224fe80e6ed046e12b7874ae79c4db420ebb57544b4dbefcfb794dd9d39", func := "loop.example/g00277/laws.FnExactJoinChunks", spec := "fnExactJoinChunks", unfollowed := true, recurses := true, apart := false }
def FnExactJoinChunksSaid : Prop := fnExactJoinChunksRow.holds Try.pinned (OpenSpec.ofChange fnExactJoinChunksSpec)

/-- ITS FALSE NEIGHBOUR: 'it returns false'. Refute it at one input. -/
def fnExactJoinChunksWrong : ChangeSpec := { name := "fnExactJoinChunks", fn := fun _ => fun
  | [d] => { results := [.lit (.bool false)], args := [d] }
  | _ => none }
def FnExactJoinChunksWrongFalsely : Prop := fnExactJoinChunksRow.holds Try.pinned (OpenSpec.ofChange fnExactJoinChunksWrong)

/-- 'laws.FnExactSealedRight': WHATEVER THE INPUT: true; the input reads as it did. -/
def fnExactSealedRightSpec : ChangeSpec := { name := "fnExactSealedRight", fn := fun _ => fun
  | [d] => { results := [.lit (.bool true)], args := [d] }
  | _ => none }
def fnExactSealedRightRow : OpenClaim := { program := "ytfffbjeaebmhbaa", sum := "439d2224fe80e6ed046e12b7874ae79c4db420ebb57544b4dbefcfb794dd9d39", func := "loop.example/g00277/laws.FnExactSealedRight", spec := "fnExactSealedRight", unfollowed := true, recurses := true, apart := false }
def FnExactSealedRightSaid : Prop := fnExactSealedRightRow.holds Try.pinned (OpenSpec.ofChange fnExactSealedRightSpec)

/-- ITS FALSE NEIGHBOUR: 'it returns false'. Refute it at one input. -/
def fnExactSealedRightWrong : ChangeSpec := { name := "fnExactSealedRight", fn := fun _ => fun
  | [d] => { results := [.lit (.bool false)], args := [d] }
  | _ => none }
def FnExactSealedRightWrongFalsely : Prop := fnExactSealedRightRow.holds Try.pinned (OpenSpec.ofChange fnExactSealedRightWrong)

/-- 'laws.FnExactRoundsFor': WHATEVER THE INPUT: true; the input reads as it did. -/
def fnExactRoundsForSpec : ChangeSpec := { name := "fnExactRoundsFor", fn := fun _ => fun
  | [d] => { results := [.lit (.bool true)], args := [d] }
  | _ => none }
def fnExactRoundsForRow : OpenClaim := { program := "ytfffbjeaebmhbaa", sum := "439d2224fe80e6ed046e12b7874ae79c4db420ebb57544b4dbefcfb794dd9d39", func := "loop.example/g00277/laws.FnExactRoundsFor", spec := "fnExactRoundsFor", unfollowed := true, recurses := true, apart := false }
def FnExactRoundsForSaid : Prop := fnExactRoundsForRow.holds Try.pinned (OpenSpec.ofChange fnExactRoundsForSpec)

/-- ITS FALSE NEIGHBOUR: 'it returns false'. Refute it at one input. -/
def fnExactRoundsForWrong : ChangeSpec := { name := "fnExactRoundsFor", fn := fun _ => fun
  | [d] => { results := [.lit (.bool false)], args := [d] }
  | _ => none }
def FnExactRoundsForWrongFalsely : Prop := fnExactRoundsForRow.holds Try.pinned (OpenSpec.ofChange fnExactRoundsForWrong)

/-- 'laws.FnExactLeaderOf': WHATEVER THE INPUT: true; the input reads as it did. -/
def fnExactLeaderOfSpec : ChangeSpec := { name := "fnExactLeaderOf", fn := fun _ => fun
  | [d] => { results := [.lit (.bool true)], args := [d] }
  | _ => none }
def fnExactLeaderOfRow : OpenClaim := { program := "ytfffbjeaebmhbaa", sum := "439d2224fe80e6ed046e12b7874ae79c4db420ebb57544b4dbefcfb794dd9d39", func := "loop.example/g00277/laws.FnExactLeaderOf", spec := "fnExactLeaderOf", unfollowed := true, recurses := true, apart := false }
def FnExactLeaderOfSaid : Prop := fnExactLeaderOfRow.holds Try.pinned (OpenSpec.ofChange fnExactLeaderOfSpec)

/-- ITS FALSE NEIGHBOUR: 'it returns false'. Refute it at one input. -/
def fnExactLeaderOfWrong : ChangeSpec := { name := "fnExactLeaderOf", fn := fun _ => fun
  | [d] => { results := [.lit (.bool false)], args := [d] }
  | _ => none }
def FnExactLeaderOfWrongFalsely : Prop := fnExactLeaderOfRow.holds Try.pinned (OpenSpec.ofChange fnExactLeaderOfWrong)

/-- 'laws.FnExactEvenCluster': WHATEVER THE INPUT: true; the input reads as it did. -/
def fnExactEvenClusterSpec : ChangeSpec := { name := "fnExactEvenCluster", fn := fun _ => fun
  | [d] => { results := [.lit (.bool true)], args := [d] }
  | _ => none }
def fnExactEvenClusterRow : OpenClaim := { program := "ytfffbjeaebmhbaa", sum := "439d2224fe80e6ed046e12b7874ae79c4db420ebb57544b4dbefcfb794dd9d39", func := "loop.example/g00277/laws.FnExactEvenCluster", spec := "fnExactEvenCluster", unfollowed := true, recurses := true, apart := false }
def FnExactEvenClusterSaid : Prop := fnExactEvenClusterRow.holds Try.pinned (OpenSpec.ofChange fnExactEvenClusterSpec)

/-- ITS FALSE NEIGHBOUR: 'it returns false'. Refute it at one input. -/
def fnExactEvenClusterWrong : ChangeSpec := { name := "fnExactEvenCluster", fn := fun _ => fun
  | [d] => { results := [.lit (.bool false)], args := [d] }
  | _ => none }
def FnExactEvenClusterWrongFalsely : Prop := fnExactEvenClusterRow.holds Try.pinned (OpenSpec.ofChange fnExactEvenClusterWrong)

/-- 'laws.FnExactLogsMatch': WHATEVER THE INPUT: true; the input reads as it did. -/
def fnExactLogsMatchSpec : ChangeSpec := { name := "fnExactLogsMatch", fn := fun _ => fun
  | [d] => { results := [.lit (.bool true)], args := [d] }
  | _ => none }
def fnExactLogsMatchRow : OpenClaim := { program := "ytfffbjeaebmhbaa", sum := "439d2224fe80e6ed046e12b7874ae79c4db420ebb57544b4dbefcfb794dd9d39", func := "loop.example/g00277/laws.FnExactLogsMatch", spec := "fnExactLogsMatch", unfollowed := true, recurses := true, apart := false }
def FnExactLogsMatchSaid : Prop := fnExactLogsMatchRow.holds Try.pinned (OpenSpec.ofChange fnExactLogsMatchSpec)

/-- ITS FALSE NEIGHBOUR: 'it returns false'. Refute it at one input. -/
def fnExactLogsMatchWrong : ChangeSpec := { name := "fnExactLogsMatch", fn := fun _ => fun
  | [d] => { results := [.lit (.bool false)], args := [d] }
  | _ => none }
def FnExactLogsMatchWrongFalsely : Prop := fnExactLogsMatchRow.holds Try.pinned (OpenSpec.ofChange fnExactLogsMatchWrong)

/-- 'laws.FnExactPrimariesHave': WHATEVER THE INPUT: true; the input reads as it did. -/
def fnExactPrimariesHaveSpec : ChangeSpec := { name := "fnExactPrimariesHave", fn := fun _ => fun
  | [d] => { results := [.lit (.bool true)], args := [d] }
  | _ => none }
def fnExactPrimariesHaveRow : OpenClaim := { program := "ytfffbjeaebmhbaa", sum := "439d2224fe80e6ed046e12b7874ae79c4db420ebb57544b4dbefcfb794dd9d39", func := "loop.example/g00277/laws.FnExactPrimariesHave", spec := "fnExactPrimariesHave", unfollowed := true, recurses := true, apart := false }
def FnExactPrimariesHaveSaid : Prop := fnExactPrimariesHaveRow.holds Try.pinned (OpenSpec.ofChange fnExactPrimariesHaveSpec)

/-- ITS FALSE NEIGHBOUR: 'it returns false'. Refute it at one input. -/
def fnExactPrimariesHaveWrong : ChangeSpec := { name := "fnExactPrimariesHave", fn := fun _ => fun
  | [d] => { results := [.lit (.bool false)], args := [d] }
  | _ => none }
def FnExactPrimariesHaveWrongFalsely : Prop := fnExactPrimariesHaveRow.holds Try.pinned (OpenSpec.ofChange fnExactPrimariesHaveWrong)

/-- 'laws.FnExactSafeCluster': WHATEVER THE INPUT: true; the input reads as it did. -/
def fnExactSafeClusterSpec : ChangeSpec := { name := "fnExactSafeCluster", fn := fun _ => fun
  | [d] => { results := [.lit (.bool true)], args := [d] }
  | _ => none }
def fnExactSafeClusterRow : OpenClaim := { program := "ytfffbjeaebmhbaa", sum := "439d2224fe80e6ed046e12b7874ae79c4db420ebb57544b4dbefcfb794dd9d39", func := "loop.example/g00277/laws.FnExactSafeCluster", spec := "fnExactSafeCluster", unfollowed := true, recurses := true, apart := false }
def FnExactSafeClusterSaid : Prop := fnExactSafeClusterRow.holds Try.pinned (OpenSpec.ofChange fnExactSafeClusterSpec)

/-- ITS FALSE NEIGHBOUR: 'it returns false'. Refute it at one input. -/
def fnExactSafeClusterWrong : ChangeSpec := { name := "fnExactSafeCluster", fn := fun _ => fun
  | [d] => { results := [.lit (.bool false)], args := [d] }
  | _ => none }
def FnExactSafeClusterWrongFalsely : Prop := fnExactSafeClusterRow.holds Try.pinned (OpenSpec.ofChange fnExactSafeClusterWrong)

/-- 'laws.FnExactCrashReplica': WHATEVER THE INPUT: true; the input reads as it did. -/
def fnExactCrashReplicaSpec : ChangeSpec := { name := "fnExactCrashReplica", fn := fun _ => fun
  | [d] => { results := [.lit (.bool true)], args := [d] }
  | _ => none }
def fnExactCrashReplicaRow : OpenClaim := { program := "ytfffbjeaebmhbaa", sum := "439d2224fe80e6ed046e12b7874ae79c4db420ebb57544b4dbefcfb794dd9d39", func := "loop.example/g00277/laws.FnExactCrashReplica", spec := "fnExactCrashReplica", unfollowed := true, recurses := true, apart := false }
def FnExactCrashReplicaSaid : Prop := fnExactCrashReplicaRow.holds Try.pinned (OpenSpec.ofChange fnExactCrashReplicaSpec)

/-- ITS FALSE NEIGHBOUR: 'it returns false'. Refute it at one input. -/
def fnExactCrashReplicaWrong : ChangeSpec := { name := "fnExactCrashReplica", fn := fun _ => fun
  | [d] => { results := [.lit (.bool false)], args := [d] }
  | _ => none }
def FnExactCrashReplicaWrongFalsely : Prop := fnExactCrashReplicaRow.holds Try.pinned (OpenSpec.ofChange fnExactCrashReplicaWrong)

/-- 'laws.FnNews': WHATEVER THE INPUT: true; the input reads as it did. -/
def fnNewsSpec : ChangeSpec := { name := "fnNews", fn := fun _ => fun
  | [d] => { results := [.lit (.bool true)], args := [d] }
  | _ => none }
def fnNewsRow : OpenClaim := { program := "ytfffbjeaebmhbaa", sum := "439d2224fe80e6ed046e12b7874ae79c4db420ebb57544b4dbefcfb794dd9d39", func := "loop.example/g00277/laws.FnNews", spec := "fnNews", unfollowed := true, recurses := true, apart := false }
def FnNewsSaid : Prop := fnNewsRow.holds Try.pinned (OpenSpec.ofChange fnNewsSpec)

/-- ITS FALSE NEIGHBOUR: 'it returns false'. Refute it at one input. -/
def fnNewsWrong : ChangeSpec := { name := "fnNews", fn := fun _ => fun
  | [d] => { results := [.lit (.bool false)], args := [d] }
  | _ => none }
def FnNewsWrongFalsely : Prop := fnNewsRow.holds Try.pinned (OpenSpec.ofChange fnNewsWrong)

/-- 'laws.FnExactTimeoutReplica': WHATEVER THE INPUT: true; the input reads as it did. -/
def fnExactTimeoutReplicaSpec : ChangeSpec := { name := "fnExactTimeoutReplica", fn := fun _ => fun
  | [d] => { results := [.lit (.bool true)], args := [d] }
  | _ => none }
def fnExactTimeoutReplicaRow : OpenClaim := { program := "ytfffbjeaebmhbaa", sum := "439d2224fe80e6ed046e12b7874ae79c4db420ebb57544b4dbefcfb794dd9d39", func := "loop.example/g00277/laws.FnExactTimeoutReplica", spec := "fnExactTimeoutReplica", unfollowed := true, recurses := true, apart := false }
def FnExactTimeoutReplicaSaid : Prop := fnExactTimeoutReplicaRow.holds Try.pinned (OpenSpec.ofChange fnExactTimeoutReplicaSpec)

/-- ITS FALSE NEIGHBOUR: 'it returns false'. Refute it at one input. -/
def fnExactTimeoutReplicaWrong : ChangeSpec := { name := "fnExactTimeoutReplica", fn := fun _ => fun
  | [d] => { results := [.lit (.bool false)], args := [d] }
  | _ => none }
def FnExactTimeoutReplicaWrongFalsely : Prop := fnExactTimeoutReplicaRow.holds Try.pinned (OpenSpec.ofChange fnExactTimeoutReplicaWrong)

/- THE SECOND FORM. 'bulk': how many values and letters a reading holds, each counted each time it is reached (what is shared counts as often as it is met; a slice's spare places count too). A statement '..UptoSaid' is the law's where the arguments, and the package variables that the reading takes, are together of bulk at most 1048576: NARROWER than '..Said'. Prove '..Said' where nothing that the law and all that it calls make is longer than what came in: it says more and counts as full. Else prove '..UptoSaid'. A law counts once. -/
mutual
def uptoBulk {H : Type} : DataW H → Nat
  | .lit (.string bytes) => bytes.length + 1
  | .lit _ => 1
  | .nil => 1
  | .ptr d => uptoBulk d + 1
  | .slice elems spare => uptoBulkAll elems + uptoBulkAll spare + 1
  | .agg parts => uptoBulkAll parts + 1
  | .iface _ d => uptoBulk d + 1
  | .map entries => uptoBulkEntries entries + 1
  | .held _ => 1
def uptoBulkAll {H : Type} : List (DataW H) → Nat
  | [] => 0
  | d :: r => uptoBulk d + uptoBulkAll r
def uptoBulkEntries {H : Type} : List (Lit × DataW H) → Nat
  | [] => 0
  | x :: r => uptoBulkEntry x + uptoBulkEntries r
def uptoBulkEntry {H : Type} : Lit × DataW H → Nat
  | (.string bytes, d) => bytes.length + uptoBulk d + 1
  | (_, d) => uptoBulk d + 1
 end
def uptoSmall : (H : Type) → List (DataW H) → Bool := fun _ ds => decide (uptoBulkAll ds ≤ 1048576)
def OpenSpec.upto (s : _root_.Go.ChangeSpec) : _root_.Go.OpenSpec := { _root_.Go.OpenSpec.ofChange s with cond := some uptoSmall }

/-- 'laws.FnExactJoinChunks', WHERE WHAT IT READS IS OF BULK AT MOST 1048576: true; the input reads as it did. -/
def fnExactJoinChunksUptoRow : OpenClaim := { program := "ytfffbjeaebmhbaa", sum := "439d2224fe80e6ed046e12b7874ae79c4db420ebb57544b4dbefcfb794dd9d39", func := "loop.example/g00277/laws.FnExactJoinChunks", spec := "fnExactJoinChunks", unfollowed := true, recurses := true, apart := false, narrowed := true }
def FnExactJoinChunksUptoSaid : Prop := fnExactJoinChunksUptoRow.holds Try.pinned (OpenSpec.upto fnExactJoinChunksSpec)

/-- 'laws.FnExactSealedRight', WHERE WHAT IT READS IS OF BULK AT MOST 1048576: true; the input reads as it did. -/
def fnExactSealedRightUptoRow : OpenClaim := { program := "ytfffbjeaebmhbaa", sum := "439d2224fe80e6ed046e12b7874ae79c4db420ebb57544b4dbefcfb794dd9d39", func := "loop.example/g00277/laws.FnExactSealedRight", spec := "fnExactSealedRight", unfollowed := true, recurses := true, apart := false, narrowed := true }
def FnExactSealedRightUptoSaid : Prop := fnExactSealedRightUptoRow.holds Try.pinned (OpenSpec.upto fnExactSealedRightSpec)

/-- 'laws.FnExactRoundsFor', WHERE WHAT IT READS IS OF BULK AT MOST 1048576: true; the input reads as it did. -/
def fnExactRoundsForUptoRow : OpenClaim := { program := "ytfffbjeaebmhbaa", sum := "439d2224fe80e6ed046e12b7874ae79c4db420ebb57544b4dbefcfb794dd9d39", func := "loop.example/g00277/laws.FnExactRoundsFor", spec := "fnExactRoundsFor", unfollowed := true, recurses := true, apart := false, narrowed := true }
def FnExactRoundsForUptoSaid : Prop := fnExactRoundsForUptoRow.holds Try.pinned (OpenSpec.upto fnExactRoundsForSpec)

/-- 'laws.FnExactLeaderOf', WHERE WHAT IT READS IS OF BULK AT MOST 1048576: true; the input reads as it did. -/
def fnExactLeaderOfUptoRow : OpenClaim := { program := "ytfffbjeaebmhbaa", sum := "439d2224fe80e6ed046e12b7874ae79c4db420ebb57544b4dbefcfb794dd9d39", func := "loop.example/g00277/laws.FnExactLeaderOf", spec := "fnExactLeaderOf", unfollowed := true, recurses := true, apart := false, narrowed := true }
def FnExactLeaderOfUptoSaid : Prop := fnExactLeaderOfUptoRow.holds Try.pinned (OpenSpec.upto fnExactLeaderOfSpec)

/-- 'laws.FnExactEvenCluster', WHERE WHAT IT READS IS OF BULK AT MOST 1048576: true; the input reads as it did. -/
def fnExactEvenClusterUptoRow : OpenClaim := { program := "ytfffbjeaebmhbaa", sum := "439d2224fe80e6ed046e12b7874ae79c4db420ebb57544b4dbefcfb794dd9d39", func := "loop.example/g00277/laws.FnExactEvenCluster", spec := "fnExactEvenCluster", unfollowed := true, recurses := true, apart := false, narrowed := true }
def FnExactEvenClusterUptoSaid : Prop := fnExactEvenClusterUptoRow.holds Try.pinned (OpenSpec.upto fnExactEvenClusterSpec)

/-- 'laws.FnExactLogsMatch', WHERE WHAT IT READS IS OF BULK AT MOST 1048576: true; the input reads as it did. -/
def fnExactLogsMatchUptoRow : OpenClaim := { program := "ytfffbjeaebmhbaa", sum := "439d2224fe80e6ed046e12b7874ae79c4db420ebb57544b4dbefcfb794dd9d39", func := "loop.example/g00277/laws.FnExactLogsMatch", spec := "fnExactLogsMatch", unfollowed := true, recurses := true, apart := false, narrowed := true }
def FnExactLogsMatchUptoSaid : Prop := fnExactLogsMatchUptoRow.holds Try.pinned (OpenSpec.upto fnExactLogsMatchSpec)

/-- 'laws.FnExactPrimariesHave', WHERE WHAT IT READS IS OF BULK AT MOST 1048576: true; the input reads as it did. -/
def fnExactPrimariesHaveUptoRow : OpenClaim := { program := "ytfffbjeaebmhbaa", sum := "439d2224fe80e6ed046e12b7874ae79c4db420ebb57544b4dbefcfb794dd9d39", func := "loop.example/g00277/laws.FnExactPrimariesHave", spec := "fnExactPrimariesHave", unfollowed := true, recurses := true, apart := false, narrowed := true }
def FnExactPrimariesHaveUptoSaid : Prop := fnExactPrimariesHaveUptoRow.holds Try.pinned (OpenSpec.upto fnExactPrimariesHaveSpec)

/-- 'laws.FnExactSafeCluster', WHERE WHAT IT READS IS OF BULK AT MOST 1048576: true; the input reads as it did. -/
def fnExactSafeClusterUptoRow : OpenClaim := { program := "ytfffbjeaebmhbaa", sum := "439d2224fe80e6ed046e12b7874ae79c4db420ebb57544b4dbefcfb794dd9d39", func := "loop.example/g00277/laws.FnExactSafeCluster", spec := "fnExactSafeCluster", unfollowed := true, recurses := true, apart := false, narrowed := true }
def FnExactSafeClusterUptoSaid : Prop := fnExactSafeClusterUptoRow.holds Try.pinned (OpenSpec.upto fnExactSafeClusterSpec)

/-- 'laws.FnExactCrashReplica', WHERE WHAT IT READS IS OF BULK AT MOST 1048576: true; the input reads as it did. -/
def fnExactCrashReplicaUptoRow : OpenClaim := { program := "ytfffbjeaebmhbaa", sum := "439d2224fe80e6ed046e12b7874ae79c4db420ebb57544b4dbefcfb794dd9d39", func := "loop.example/g00277/laws.FnExactCrashReplica", spec := "fnExactCrashReplica", unfollowed := true, recurses := true, apart := false, narrowed := true }
def FnExactCrashReplicaUptoSaid : Prop := fnExactCrashReplicaUptoRow.holds Try.pinned (OpenSpec.upto fnExactCrashReplicaSpec)

/-- 'laws.FnNews', WHERE WHAT IT READS IS OF BULK AT MOST 1048576: true; the input reads as it did. -/
def fnNewsUptoRow : OpenClaim := { program := "ytfffbjeaebmhbaa", sum := "439d2224fe80e6ed046e12b7874ae79c4db420ebb57544b4dbefcfb794dd9d39", func := "loop.example/g00277/laws.FnNews", spec := "fnNews", unfollowed := true, recurses := true, apart := false, narrowed := true }
def FnNewsUptoSaid : Prop := fnNewsUptoRow.holds Try.pinned (OpenSpec.upto fnNewsSpec)

/-- 'laws.FnExactTimeoutReplica', WHERE WHAT IT READS IS OF BULK AT MOST 1048576: true; the input reads as it did. -/
def fnExactTimeoutReplicaUptoRow : OpenClaim := { program := "ytfffbjeaebmhbaa", sum := "439d2224fe80e6ed046e12b7874ae79c4db420ebb57544b4dbefcfb794dd9d39", func := "loop.example/g00277/laws.FnExactTimeoutReplica", spec := "fnExactTimeoutReplica", unfollowed := true, recurses := true, apart := false, narrowed := true }
def FnExactTimeoutReplicaUptoSaid : Prop := fnExactTimeoutReplicaUptoRow.holds Try.pinned (OpenSpec.upto fnExactTimeoutReplicaSpec)

end Rows
end Go.Proofs.Ytfffbjeaebmhbaa
