/-
  No cell of these rows narrows 'for every input' (looked for: loops, veiled, ifaces, maps, wideKeys, modest, calm, conditions, laid).
  DERIVED. THE GIVEN ROWS OF THIS SEAT. 3 by the template 'for every input the law returns true; each argument reads behind the call as it read before'; 0 by the template 'total and deterministic' (their statements: YtdjfehjddfbbjaaGreatTotals.lean).
  GIVEN WITH THE SEED: the statements are not yours to turn. If you find one false, say at which input.
  Laid BY PROGRAM, IN A SANDBOX (cutbox-rows.mjs): the forced cells as the released guide's own fill.sh prints them over the translation 29414097f13763aa… (all of the seat's roots in one cut). By AI agents, Wed Nov 11 2026. No macro, syntax, notation, axiom, sorry.
-/
import Derived.Test.YtdjfehjddfbbjaaGreatChecked
import GoSem.Claim
import GoSem.ClaimJoined
import GoSem.ClaimMapViews
import Derived.JoinedTies
import Derived.KernelRfl
namespace Go.Proofs.YtdjfehjddfbbjaaGreat
/- THE CELL 'sum', in the pinned program and in every row, IS THE sha256 OF THE DUMP (.gsa) THAT YtdjfehjddfbbjaaGreatProg.lean LOADS. Nothing in Lean hashes anything: it is a label: what it is worth is what the hold of that sum in a sandbox is worth. -/
noncomputable def Tryz.pinned : Pinned := { name := "ytdjfehjddfbbjaagreat", sum := "29414097f13763aa13a01199a57c1f5c7b7c0db333b3727afbd66f0d1ee9576d", checked := Tryz.checked }
namespace Rows
def none {H : Type} : Left H := { results := [], args := [] }

/-- 'laws.FnLasting': WHATEVER THE INPUT: true; the input reads as it did. -/
def fnLastingSpec : ChangeSpec := { name := "fnLasting", fn := fun _ => fun
  | [d] => { results := [.lit (.bool true)], args := [d] }
  | _ => none }
def fnLastingRow : OpenClaim := { program := "ytdjfehjddfbbjaagreat", sum := "29414097f13763aa13a01199a57c1f5c7b7c0db333b3727afbd66f0d1ee9576d", func := "loop.example/g00277/laws.FnLasting", spec := "fnLasting", unfollowed := true, recurses := true, apart := false }
def FnLastingSaid : Prop := fnLastingRow.holds Tryz.pinned (OpenSpec.ofChange fnLastingSpec)

/-- ITS FALSE NEIGHBOUR: 'it returns false'. Refute it at one input. -/
def fnLastingWrong : ChangeSpec := { name := "fnLasting", fn := fun _ => fun
  | [d] => { results := [.lit (.bool false)], args := [d] }
  | _ => none }
def FnLastingWrongFalsely : Prop := fnLastingRow.holds Tryz.pinned (OpenSpec.ofChange fnLastingWrong)

/-- 'laws.FnSafeMeans': WHATEVER THE INPUT: true; the input reads as it did. -/
def fnSafeMeansSpec : ChangeSpec := { name := "fnSafeMeans", fn := fun _ => fun
  | [d] => { results := [.lit (.bool true)], args := [d] }
  | _ => none }
def fnSafeMeansRow : OpenClaim := { program := "ytdjfehjddfbbjaagreat", sum := "29414097f13763aa13a01199a57c1f5c7b7c0db333b3727afbd66f0d1ee9576d", func := "loop.example/g00277/laws.FnSafeMeans", spec := "fnSafeMeans", unfollowed := true, recurses := true, apart := false }
def FnSafeMeansSaid : Prop := fnSafeMeansRow.holds Tryz.pinned (OpenSpec.ofChange fnSafeMeansSpec)

/-- ITS FALSE NEIGHBOUR: 'it returns false'. Refute it at one input. -/
def fnSafeMeansWrong : ChangeSpec := { name := "fnSafeMeans", fn := fun _ => fun
  | [d] => { results := [.lit (.bool false)], args := [d] }
  | _ => none }
def FnSafeMeansWrongFalsely : Prop := fnSafeMeansRow.holds Tryz.pinned (OpenSpec.ofChange fnSafeMeansWrong)

/-- 'laws.FnHears': WHATEVER THE INPUT: true; the input reads as it did. -/
def fnHearsSpec : ChangeSpec := { name := "fnHears", fn := fun _ => fun
  | [d] => { results := [.lit (.bool true)], args := [d] }
  | _ => none }
def fnHearsRow : OpenClaim := { program := "ytdjfehjddfbbjaagreat", sum := "29414097f13763aa13a01199a57c1f5c7b7c0db333b3727afbd66f0d1ee9576d", func := "loop.example/g00277/laws.FnHears", spec := "fnHears", unfollowed := true, recurses := true, apart := false }
def FnHearsSaid : Prop := fnHearsRow.holds Tryz.pinned (OpenSpec.ofChange fnHearsSpec)

/-- ITS FALSE NEIGHBOUR: 'it returns false'. Refute it at one input. -/
def fnHearsWrong : ChangeSpec := { name := "fnHears", fn := fun _ => fun
  | [d] => { results := [.lit (.bool false)], args := [d] }
  | _ => none }
def FnHearsWrongFalsely : Prop := fnHearsRow.holds Tryz.pinned (OpenSpec.ofChange fnHearsWrong)

/- THE SECOND FORM. 'bulk': how many values and letters a reading holds, each counted each time it is reached (what is shared counts as often as it is met; a slice's spare places count too). A statement '..UptoSaid' is the law's where the arguments, and the package variables that the reading takes, are together of bulk at most 1048576: NARROWER than '..Said'. Prove '..Said' where nothing that the law and all that it calls make is longer than what came in: it says more and counts as full. Else prove '..UptoSaid'. A law counts once. -/
mutual
def uptoBulk {H : Type} : DataW H → Nat
  | .lit (.string bytes) => bytes.length + 1
  | .lit _ => 1
  | .nil => 1
  | .ptr d => uptoBulk d + 1
  | .slice elems spare => uptoBulkAll elems + uptoBulkAll spare + 1
  | .agg parts => uptoBulkAll parts + 1
  | .iface _ d => uptoBulk d + 1
  | .map entries => uptoBulkEntries entries + 1
  | .held _ => 1
def uptoBulkAll {H : Type} : List (DataW H) → Nat
  | [] => 0
  | d :: r => uptoBulk d + uptoBulkAll r
def uptoBulkEntries {H : Type} : List (Lit × DataW H) → Nat
  | [] => 0
  | x :: r => uptoBulkEntry x + uptoBulkEntries r
def uptoBulkEntry {H : Type} : Lit × DataW H → Nat
  | (.string bytes, d) => bytes.length + uptoBulk d + 1
  | (_, d) => uptoBulk d + 1
 end
def uptoSmall : (H : Type) → List (DataW H) → Bool := fun _ ds => decide (uptoBulkAll ds ≤ 1048576)
def OpenSpec.upto (s : _root_.Go.ChangeSpec) : _root_.Go.OpenSpec := { _root_.Go.OpenSpec.ofChange s with cond := some uptoSmall }

/-- 'laws.FnLasting', WHERE WHAT IT READS IS OF BULK AT MOST 1048576: true; the input reads as it did. -/
def fnLastingUptoRow : OpenClaim := { program := "ytdjfehjddfbbjaagreat", sum := "29414097f13763aa13a01199a57c1f5c7b7c0db333b3727afbd66f0d1ee9576d", func := "loop.example/g00277/laws.FnLasting", spec := "fnLasting", unfollowed := true, recurses := true, apart := false, narrowed := true }
def FnLastingUptoSaid : Prop := fnLastingUptoRow.holds Tryz.pinned (OpenSpec.upto fnLastingSpec)

/-- 'laws.FnSafeMeans', WHERE WHAT IT READS IS OF BULK AT MOST 1048576: true; the input reads as it did. -/
def fnSafeMeansUptoRow : OpenClaim := { program := "ytdjfehjddfbbjaagreat", sum := "29414097f13763aa13a01199a57c1f5c7b7c0db333b3727afbd66f0d1ee9576d", func := "loop.example/g00277/laws.FnSafeMeans", spec := "fnSafeMeans", unfollowed := true, recurses := true, apart := false, narrowed := true }
def FnSafeMeansUptoSaid : Prop := fnSafeMeansUptoRow.holds Tryz.pinned (OpenSpec.upto fnSafeMeansSpec)

/-- 'laws.FnHears', WHERE WHAT IT READS IS OF BULK AT MOST 1048576: true; the input reads as it did. -/
def fnHearsUptoRow : OpenClaim := { program := "ytdjfehjddfbbjaagreat", sum := "29414097f13763aa13a01199a57c1f5c7b7c0db333b3727afbd66f0d1ee9576d", func := "loop.example/g00277/laws.FnHears", spec := "fnHears", unfollowed := true, recurses := true, apart := false, narrowed := true }
def FnHearsUptoSaid : Prop := fnHearsUptoRow.holds Tryz.pinned (OpenSpec.upto fnHearsSpec)

end Rows
end Go.Proofs.YtdjfehjddfbbjaaGreat
