/-
  No cell of these rows narrows 'for every input' (looked for: loops, veiled, ifaces, maps, wideKeys, modest, calm, conditions, laid).
  DERIVED. THE GIVEN ROWS OF THIS SEAT. 8 by the template 'for every input the law returns true; each argument reads behind the call as it read before'; 0 by the template 'total and deterministic' (their statements: YtjljnkbiakadeaaGreatTotals.lean).
  GIVEN WITH THE SEED: the statements are not yours to turn. If you find one false, say at which input.
  Laid BY PROGRAM, IN A SANDBOX (cutbox-rows.mjs): the forced cells as the released guide's own fill.sh prints them over the translation cf956e699b77c9b9… (all of the seat's roots in one cut). By AI agents, Wed Nov 11 2026. No macro, syntax, notation, axiom, sorry.
-/
import Derived.Test.YtjljnkbiakadeaaGreatChecked
import GoSem.Claim
import GoSem.ClaimJoined
import GoSem.ClaimMapViews
import Derived.JoinedTies
import Derived.KernelRfl
namespace Go.Proofs.YtjljnkbiakadeaaGreat
/- THE CELL 'sum', in the pinned program and in every row, IS THE sha256 OF THE DUMP (.gsa) THAT YtjljnkbiakadeaaGreatProg.lean LOADS. Nothing in Lean hashes anything: it is a label: what it is worth is what the hold of that sum in a sandbox is worth. -/
noncomputable def Tryz.pinned : Pinned := { name := "ytjljnkbiakadeaagreat", sum := "cf956e699b77c9b9b3950b2a218c4c416b7ef4afcd0cdae19be844d37f2be395", checked := Tryz.checked }
namespace Rows
def none {H : Type} : Left H := { results := [], args := [] }

/-- 'laws.FnSafe': WHATEVER THE INPUT: true; the input reads as it did. -/
def fnSafeSpec : ChangeSpec := { name := "fnSafe", fn := fun _ => fun
  | [d] => { results := [.lit (.bool true)], args := [d] }
  | _ => none }
def fnSafeRow : OpenClaim := { program := "ytjljnkbiakadeaagreat", sum := "cf956e699b77c9b9b3950b2a218c4c416b7ef4afcd0cdae19be844d37f2be395", func := "loop.example/g00277/laws.FnSafe", spec := "fnSafe", unfollowed := true, recurses := true, apart := false }
def FnSafeSaid : Prop := fnSafeRow.holds Tryz.pinned (OpenSpec.ofChange fnSafeSpec)

/-- ITS FALSE NEIGHBOUR: 'it returns false'. Refute it at one input. -/
def fnSafeWrong : ChangeSpec := { name := "fnSafe", fn := fun _ => fun
  | [d] => { results := [.lit (.bool false)], args := [d] }
  | _ => none }
def FnSafeWrongFalsely : Prop := fnSafeRow.holds Tryz.pinned (OpenSpec.ofChange fnSafeWrong)

/-- 'laws.FnExactCrashAt': WHATEVER THE INPUT: true; the input reads as it did. -/
def fnExactCrashAtSpec : ChangeSpec := { name := "fnExactCrashAt", fn := fun _ => fun
  | [d1, d2] => { results := [.lit (.bool true)], args := [d1, d2] }
  | _ => none }
def fnExactCrashAtRow : OpenClaim := { program := "ytjljnkbiakadeaagreat", sum := "cf956e699b77c9b9b3950b2a218c4c416b7ef4afcd0cdae19be844d37f2be395", func := "loop.example/g00277/laws.FnExactCrashAt", spec := "fnExactCrashAt", unfollowed := true, recurses := true, apart := false }
def FnExactCrashAtSaid : Prop := fnExactCrashAtRow.holds Tryz.pinned (OpenSpec.ofChange fnExactCrashAtSpec)

/-- ITS FALSE NEIGHBOUR: 'it returns false'. Refute it at one input. -/
def fnExactCrashAtWrong : ChangeSpec := { name := "fnExactCrashAt", fn := fun _ => fun
  | [d1, d2] => { results := [.lit (.bool false)], args := [d1, d2] }
  | _ => none }
def FnExactCrashAtWrongFalsely : Prop := fnExactCrashAtRow.holds Tryz.pinned (OpenSpec.ofChange fnExactCrashAtWrong)

/-- 'laws.FnExactTimeoutAt': WHATEVER THE INPUT: true; the input reads as it did. -/
def fnExactTimeoutAtSpec : ChangeSpec := { name := "fnExactTimeoutAt", fn := fun _ => fun
  | [d1, d2] => { results := [.lit (.bool true)], args := [d1, d2] }
  | _ => none }
def fnExactTimeoutAtRow : OpenClaim := { program := "ytjljnkbiakadeaagreat", sum := "cf956e699b77c9b9b3950b2a218c4c416b7ef4afcd0cdae19be844d37f2be395", func := "loop.example/g00277/laws.FnExactTimeoutAt", spec := "fnExactTimeoutAt", unfollowed := true, recurses := true, apart := false }
def FnExactTimeoutAtSaid : Prop := fnExactTimeoutAtRow.holds Tryz.pinned (OpenSpec.ofChange fnExactTimeoutAtSpec)

/-- ITS FALSE NEIGHBOUR: 'it returns false'. Refute it at one input. -/
def fnExactTimeoutAtWrong : ChangeSpec := { name := "fnExactTimeoutAt", fn := fun _ => fun
  | [d1, d2] => { results := [.lit (.bool false)], args := [d1, d2] }
  | _ => none }
def FnExactTimeoutAtWrongFalsely : Prop := fnExactTimeoutAtRow.holds Tryz.pinned (OpenSpec.ofChange fnExactTimeoutAtWrong)

/-- 'laws.FnExactAskAt': WHATEVER THE INPUT: true; the input reads as it did. -/
def fnExactAskAtSpec : ChangeSpec := { name := "fnExactAskAt", fn := fun _ => fun
  | [d1, d2, d3] => { results := [.lit (.bool true)], args := [d1, d2, d3] }
  | _ => none }
def fnExactAskAtRow : OpenClaim := { program := "ytjljnkbiakadeaagreat", sum := "cf956e699b77c9b9b3950b2a218c4c416b7ef4afcd0cdae19be844d37f2be395", func := "loop.example/g00277/laws.FnExactAskAt", spec := "fnExactAskAt", unfollowed := true, recurses := true, apart := false }
def FnExactAskAtSaid : Prop := fnExactAskAtRow.holds Tryz.pinned (OpenSpec.ofChange fnExactAskAtSpec)

/-- ITS FALSE NEIGHBOUR: 'it returns false'. Refute it at one input. -/
def fnExactAskAtWrong : ChangeSpec := { name := "fnExactAskAt", fn := fun _ => fun
  | [d1, d2, d3] => { results := [.lit (.bool false)], args := [d1, d2, d3] }
  | _ => none }
def FnExactAskAtWrongFalsely : Prop := fnExactAskAtRow.holds Tryz.pinned (OpenSpec.ofChange fnExactAskAtWrong)

/-- 'laws.FnExactBeatAt': WHATEVER THE INPUT: true; the input reads as it did. -/
def fnExactBeatAtSpec : ChangeSpec := { name := "fnExactBeatAt", fn := fun _ => fun
  | [d1, d2] => { results := [.lit (.bool true)], args := [d1, d2] }
  | _ => none }
def fnExactBeatAtRow : OpenClaim := { program := "ytjljnkbiakadeaagreat", sum := "cf956e699b77c9b9b3950b2a218c4c416b7ef4afcd0cdae19be844d37f2be395", func := "loop.example/g00277/laws.FnExactBeatAt", spec := "fnExactBeatAt", unfollowed := true, recurses := true, apart := false }
def FnExactBeatAtSaid : Prop := fnExactBeatAtRow.holds Tryz.pinned (OpenSpec.ofChange fnExactBeatAtSpec)

/-- ITS FALSE NEIGHBOUR: 'it returns false'. Refute it at one input. -/
def fnExactBeatAtWrong : ChangeSpec := { name := "fnExactBeatAt", fn := fun _ => fun
  | [d1, d2] => { results := [.lit (.bool false)], args := [d1, d2] }
  | _ => none }
def FnExactBeatAtWrongFalsely : Prop := fnExactBeatAtRow.holds Tryz.pinned (OpenSpec.ofChange fnExactBeatAtWrong)

/-- 'laws.FnExactRoundCluster': WHATEVER THE INPUT: true; the input reads as it did. -/
def fnExactRoundClusterSpec : ChangeSpec := { name := "fnExactRoundCluster", fn := fun _ => fun
  | [d] => { results := [.lit (.bool true)], args := [d] }
  | _ => none }
def fnExactRoundClusterRow : OpenClaim := { program := "ytjljnkbiakadeaagreat", sum := "cf956e699b77c9b9b3950b2a218c4c416b7ef4afcd0cdae19be844d37f2be395", func := "loop.example/g00277/laws.FnExactRoundCluster", spec := "fnExactRoundCluster", unfollowed := true, recurses := true, apart := false }
def FnExactRoundClusterSaid : Prop := fnExactRoundClusterRow.holds Tryz.pinned (OpenSpec.ofChange fnExactRoundClusterSpec)

/-- ITS FALSE NEIGHBOUR: 'it returns false'. Refute it at one input. -/
def fnExactRoundClusterWrong : ChangeSpec := { name := "fnExactRoundCluster", fn := fun _ => fun
  | [d] => { results := [.lit (.bool false)], args := [d] }
  | _ => none }
def FnExactRoundClusterWrongFalsely : Prop := fnExactRoundClusterRow.holds Tryz.pinned (OpenSpec.ofChange fnExactRoundClusterWrong)

/-- 'laws.FnExactRunCluster': WHATEVER THE INPUT: true; the input reads as it did. -/
def fnExactRunClusterSpec : ChangeSpec := { name := "fnExactRunCluster", fn := fun _ => fun
  | [d1, d2] => { results := [.lit (.bool true)], args := [d1, d2] }
  | _ => none }
def fnExactRunClusterRow : OpenClaim := { program := "ytjljnkbiakadeaagreat", sum := "cf956e699b77c9b9b3950b2a218c4c416b7ef4afcd0cdae19be844d37f2be395", func := "loop.example/g00277/laws.FnExactRunCluster", spec := "fnExactRunCluster", unfollowed := true, recurses := true, apart := false }
def FnExactRunClusterSaid : Prop := fnExactRunClusterRow.holds Tryz.pinned (OpenSpec.ofChange fnExactRunClusterSpec)

/-- ITS FALSE NEIGHBOUR: 'it returns false'. Refute it at one input. -/
def fnExactRunClusterWrong : ChangeSpec := { name := "fnExactRunCluster", fn := fun _ => fun
  | [d1, d2] => { results := [.lit (.bool false)], args := [d1, d2] }
  | _ => none }
def FnExactRunClusterWrongFalsely : Prop := fnExactRunClusterRow.holds Tryz.pinned (OpenSpec.ofChange fnExactRunClusterWrong)

/-- 'laws.FnExactSettleCluster': WHATEVER THE INPUT: true; the input reads as it did. -/
def fnExactSettleClusterSpec : ChangeSpec := { name := "fnExactSettleCluster", fn := fun _ => fun
  | [d] => { results := [.lit (.bool true)], args := [d] }
  | _ => none }
def fnExactSettleClusterRow : OpenClaim := { program := "ytjljnkbiakadeaagreat", sum := "cf956e699b77c9b9b3950b2a218c4c416b7ef4afcd0cdae19be844d37f2be395", func := "loop.example/g00277/laws.FnExactSettleCluster", spec := "fnExactSettleCluster", unfollowed := true, recurses := true, apart := false }
def FnExactSettleClusterSaid : Prop := fnExactSettleClusterRow.holds Tryz.pinned (OpenSpec.ofChange fnExactSettleClusterSpec)

/-- ITS FALSE NEIGHBOUR: 'it returns false'. Refute it at one input. -/
def fnExactSettleClusterWrong : ChangeSpec := { name := "fnExactSettleCluster", fn := fun _ => fun
  | [d] => { results := [.lit (.bool false)], args := [d] }
  | _ => none }
def FnExactSettleClusterWrongFalsely : Prop := fnExactSettleClusterRow.holds Tryz.pinned (OpenSpec.ofChange fnExactSettleClusterWrong)

/- THE SECOND FORM. 'bulk': how many values and letters a reading holds, each counted each time it is reached (what is shared counts as often as it is met; a slice's spare places count too). A statement '..UptoSaid' is the law's where the arguments, and the package variables that the reading takes, are together of bulk at most 1048576: NARROWER than '..Said'. Prove '..Said' where nothing that the law and all that it calls make is longer than what came in: it says more and counts as full. Else prove '..UptoSaid'. A law counts once. -/
mutual
def uptoBulk {H : Type} : DataW H → Nat
  | .lit (.string bytes) => bytes.length + 1
  | .lit _ => 1
  | .nil => 1
  | .ptr d => uptoBulk d + 1
  | .slice elems spare => uptoBulkAll elems + uptoBulkAll spare + 1
  | .agg parts => uptoBulkAll parts + 1
  | .iface _ d => uptoBulk d + 1
  | .map entries => uptoBulkEntries entries + 1
  | .held _ => 1
def uptoBulkAll {H : Type} : List (DataW H) → Nat
  | [] => 0
  | d :: r => uptoBulk d + uptoBulkAll r
def uptoBulkEntries {H : Type} : List (Lit × DataW H) → Nat
  | [] => 0
  | x :: r => uptoBulkEntry x + uptoBulkEntries r
def uptoBulkEntry {H : Type} : Lit × DataW H → Nat
  | (.string bytes, d) => bytes.length + uptoBulk d + 1
  | (_, d) => uptoBulk d + 1
 end
def uptoSmall : (H : Type) → List (DataW H) → Bool := fun _ ds => decide (uptoBulkAll ds ≤ 1048576)
def OpenSpec.upto (s : _root_.Go.ChangeSpec) : _root_.Go.OpenSpec := { _root_.Go.OpenSpec.ofChange s with cond := some uptoSmall }

/-- 'laws.FnSafe', WHERE WHAT IT READS IS OF BULK AT MOST 1048576: true; the input reads as it did. -/
def fnSafeUptoRow : OpenClaim := { program := "ytjljnkbiakadeaagreat", sum := "cf956e699b77c9b9b3950b2a218c4c416b7ef4afcd0cdae19be844d37f2be395", func := "loop.example/g00277/laws.FnSafe", spec := "fnSafe", unfollowed := true, recurses := true, apart := false, narrowed := true }
def FnSafeUptoSaid : Prop := fnSafeUptoRow.holds Tryz.pinned (OpenSpec.upto fnSafeSpec)

/-- 'laws.FnExactCrashAt', WHERE WHAT IT READS IS OF BULK AT MOST 1048576: true; the input reads as it did. -/
def fnExactCrashAtUptoRow : OpenClaim := { program := "ytjljnkbiakadeaagreat", sum := "cf956e699b77c9b9b3950b2a218c4c416b7ef4afcd0cdae19be844d37f2be395", func := "loop.example/g00277/laws.FnExactCrashAt", spec := "fnExactCrashAt", unfollowed := true, recurses := true, apart := false, narrowed := true }
def FnExactCrashAtUptoSaid : Prop := fnExactCrashAtUptoRow.holds Tryz.pinned (OpenSpec.upto fnExactCrashAtSpec)

/-- 'laws.FnExactTimeoutAt', WHERE WHAT IT READS IS OF BULK AT MOST 1048576: true; the input reads as it did. -/
def fnExactTimeoutAtUptoRow : OpenClaim := { program := "ytjljnkbiakadeaagreat", sum := "cf956e699b77c9b9b3950b2a218c4c416b7ef4afcd0cdae19be844d37f2be395", func := "loop.example/g00277/laws.FnExactTimeoutAt", spec := "fnExactTimeoutAt", unfollowed := true, recurses := true, apart := false, narrowed := true }
def FnExactTimeoutAtUptoSaid : Prop := fnExactTimeoutAtUptoRow.holds Tryz.pinned (OpenSpec.upto fnExactTimeoutAtSpec)

/-- 'laws.FnExactAskAt', WHERE WHAT IT READS IS OF BULK AT MOST 1048576: true; the input reads as it did. -/
def fnExactAskAtUptoRow : OpenClaim := { program := "ytjljnkbiakadeaagreat", sum := "cf956e699b77c9b9b3950b2a218c4c416b7ef4afcd0cdae19be844d37f2be395", func := "loop.example/g00277/laws.FnExactAskAt", spec := "fnExactAskAt", unfollowed := true, recurses := true, apart := false, narrowed := true }
def FnExactAskAtUptoSaid : Prop := fnExactAskAtUptoRow.holds Tryz.pinned (OpenSpec.upto fnExactAskAtSpec)

/-- 'laws.FnExactBeatAt', WHERE WHAT IT READS IS OF BULK AT MOST 1048576: true; the input reads as it did. -/
def fnExactBeatAtUptoRow : OpenClaim := { program := "ytjljnkbiakadeaagreat", sum := "cf956e699b77c9b9b3950b2a218c4c416b7ef4afcd0cdae19be844d37f2be395", func := "loop.example/g00277/laws.FnExactBeatAt", spec := "fnExactBeatAt", unfollowed := true, recurses := true, apart := false, narrowed := true }
def FnExactBeatAtUptoSaid : Prop := fnExactBeatAtUptoRow.holds Tryz.pinned (OpenSpec.upto fnExactBeatAtSpec)

/-- 'laws.FnExactRoundCluster', WHERE WHAT IT READS IS OF BULK AT MOST 1048576: true; the input reads as it did. -/
def fnExactRoundClusterUptoRow : OpenClaim := { program := "ytjljnkbiakadeaagreat", sum := "cf956e699b77c9b9b3950b2a218c4c416b7ef4afcd0cdae19be844d37f2be395", func := "loop.example/g00277/laws.FnExactRoundCluster", spec := "fnExactRoundCluster", unfollowed := true, recurses := true, apart := false, narrowed := true }
def FnExactRoundClusterUptoSaid : Prop := fnExactRoundClusterUptoRow.holds Tryz.pinned (OpenSpec.upto fnExactRoundClusterSpec)

/-- 'laws.FnExactRunCluster', WHERE WHAT IT READS IS OF BULK AT MOST 1048576: true; the input reads as it did. -/
def fnExactRunClusterUptoRow : OpenClaim := { program := "ytjljnkbiakadeaagreat", sum := "cf956e699b77c9b9b3950b2a218c4c416b7ef4afcd0cdae19be844d37f2be395", func := "loop.example/g00277/laws.FnExactRunCluster", spec := "fnExactRunCluster", unfollowed := true, recurses := true, apart := false, narrowed := true }
def FnExactRunClusterUptoSaid : Prop := fnExactRunClusterUptoRow.holds Tryz.pinned (OpenSpec.upto fnExactRunClusterSpec)

/-- 'laws.FnExactSettleCluster', WHERE WHAT IT READS IS OF BULK AT MOST 1048576: true; the input reads as it did. -/
def fnExactSettleClusterUptoRow : OpenClaim := { program := "ytjljnkbiakadeaagreat", sum := "cf956e699b77c9b9b3950b2a218c4c416b7ef4afcd0cdae19be844d37f2be395", func := "loop.example/g00277/laws.FnExactSettleCluster", spec := "fnExactSettleCluster", unfollowed := true, recurses := true, apart := false, narrowed := true }
def FnExactSettleClusterUptoSaid : Prop := fnExactSettleClusterUptoRow.holds Tryz.pinned (OpenSpec.upto fnExactSettleClusterSpec)

end Rows
end Go.Proofs.YtjljnkbiakadeaaGreat
