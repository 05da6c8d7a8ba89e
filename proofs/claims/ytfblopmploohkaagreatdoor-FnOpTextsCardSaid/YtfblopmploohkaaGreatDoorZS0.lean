/- Bytes that are drawn from: their kind, the source's box (own work). -/
import Derived.Test.YtfblopmploohkaaGreatDoorZTr
import Derived.DataShut
import Derived.Test.YtfblopmploohkaaGreatDoorZW
import Derived.Test.YtfblopmploohkaaGreatDoorProg
set_option linter.unusedVariables false
set_option linter.unusedSimpArgs false
namespace Go.Proofs.YtfblopmploohkaaGreatDoor
open Go Go.RowKit Mk
def kU8 : Kd (Fin 256) := scalar (fun x => Value.int .u8 (x.val : Int)) (fun _ => rfl)
theorem opens_u8 {P : Program} {t : TypeId} (ht : P.underlying t = some (.int .u8)) : Opens P kU8 t := by
  intro H enc w base spare held fuel cs x h
  obtain ⟨n, rfl, _, hw⟩ := DataW.trod_int ht h
  have hb : 0 ≤ n ∧ n < 256 := by
    obtain ⟨h1, h2⟩ := (Lit.wf_int_iff _ _).1 hw
    rw [show IntKind.u8.min = 0 from rfl] at h1
    rw [show IntKind.u8.max = 255 from rfl] at h2
    omega
  exact ⟨⟨n.toNat, by omega⟩, show [Value.int .u8 n] = [Value.int .u8 ((n.toNat : Nat) : Int)] by rw [Int.toNat_of_nonneg hb.1]⟩
/-- The source of draws: its box behind all that was there in w0. -/
def SrcBox (w0 : World) (g : Nat) (A : Option Addr) (n c m : Nat) (w : World) : Prop :=
  w0.heap.size ≤ g ∧ Blk w g 69 [.slice A n c, .int .i64 m] ∧ Below w0.heap.size w0 w
end Go.Proofs.YtfblopmploohkaaGreatDoor
