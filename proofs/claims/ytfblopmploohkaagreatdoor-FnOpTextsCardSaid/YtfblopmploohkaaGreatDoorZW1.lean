/- Draws of numbers, picks, chances, operations, entries (own work). -/
import Derived.Test.YtfblopmploohkaaGreatDoorZS2
import Derived.Test.YtfblopmploohkaaGreatDoorZTy
set_option linter.unusedVariables false
set_option linter.unusedSimpArgs false
namespace Go.Proofs.YtfblopmploohkaaGreatDoor
open Go Go.RowKit Mk
/-- The source has been asked at most M times. -/
def SrcTo (w0 : World) (g : Nat) (A : Option Addr) (n c M : Nat) (w : World) : Prop := ∃ m, m ≤ M ∧ SrcBox w0 g A n c m w
theorem SrcTo.mono {w0 : World} {g : Nat} {A : Option Addr} {n c M N : Nat} {w : World} (h : SrcTo w0 g A n c M w) (hm : M ≤ N) : SrcTo w0 g A n c N w := by
  obtain ⟨m, h1, h2⟩ := h
  exact ⟨m, by omega, h2⟩
theorem SrcTo.below {w0 : World} {g : Nat} {A : Option Addr} {n c M : Nat} {w w' : World} (h : SrcTo w0 g A n c M w) (hb : Below w.heap.size w w') : SrcTo w0 g A n c M w' := by
  obtain ⟨m, h1, h2⟩ := h
  exact ⟨m, h1, src_below h2 hb⟩
theorem SrcTo.turn {w0 : World} {g : Nat} {A : Option Addr} {n c M : Nat} {w w' : World} {fq : List Nat} (h : SrcTo w0 g A n c M w) (t : Turn fq w w') (hf : ∀ b ∈ fq, w0.heap.size ≤ b) (hg : g ∉ fq) : SrcTo w0 g A n c M w' := by
  obtain ⟨m, h1, h2⟩ := h
  exact ⟨m, h1, src_turn h2 t hf hg⟩
theorem SrcTo.lt {w0 : World} {g : Nat} {A : Option Addr} {n c M : Nat} {w : World} (h : SrcTo w0 g A n c M w) : g < w.heap.size := by
  obtain ⟨m, h1, h2⟩ := h
  exact h2.2.1.lt
theorem SrcTo.ge {w0 : World} {g : Nat} {A : Option Addr} {n c M : Nat} {w : World} (h : SrcTo w0 g A n c M w) : w0.heap.size ≤ g := by
  obtain ⟨m, h1, h2⟩ := h
  exact h2.1
theorem SrcTo.b0 {w0 : World} {g : Nat} {A : Option Addr} {n c M : Nat} {w : World} (h : SrcTo w0 g A n c M w) : Below w0.heap.size w0 w := by
  obtain ⟨m, h1, h2⟩ := h
  exact h2.2.2
/-- What stays while it is drawn. -/
structure Src0 (w0 : World) (g : Nat) (code : List (Fin 256)) (A : Option Addr) (c : Nat) : Prop where
  rd : RdS kU8 w0 A c code
/-- A number drawn. -/
def NumTo (w0 : World) (g : Nat) (A : Option Addr) (len c M : Nat) (n : Int) (w : World) (r : Ending) (w' : World) : Prop :=
  ∃ v : Nat, r = .returned (.int .i64 (v : Int)) ∧ (1 ≤ n → (v : Int) < n) ∧ (n < 1 → v = 0) ∧ SrcTo w0 g A len c (M + 1) w' ∧ Turn [g] w w'
theorem next_c {w0 : World} {g : Nat} {code : List (Fin 256)} {A : Option Addr} {c M : Nat} {n : Int} {w : World} (hr : RdS kU8 w0 A c code) (hs : SrcTo w0 g A code.length c M w) (hm : M ≤ 1000000) (hn0 : -1000000 ≤ n) (hn : n ≤ 1000000) :
    Calls Tryz.prog 25 #[.pointer (some ⟨g, 0, none⟩), .int .i64 n] w fun r w' => NumTo w0 g A code.length c M n w r w' := by
  obtain ⟨m, h1, h2⟩ := hs
  refine (l1Next_c w0 g code A c m n w h2 hr (by omega) (by omega) (by omega)).mono ?_
  rintro e w' ⟨v, rfl, v0, v1, v2, hs, hT⟩
  obtain ⟨v, rfl⟩ := Int.eq_ofNat_of_zero_le v0
  exact ⟨v, rfl, v1, fun h => by have := v2 h; omega, ⟨m + 1, by omega, hs⟩, hT⟩
set_option maxRecDepth 100000 in
set_option maxHeartbeats 2000000 in
theorem chance_c {w0 : World} {g : Nat} {code : List (Fin 256)} {A : Option Addr} {c M : Nat} {n : Int} {w : World} (hr : RdS kU8 w0 A c code) (hs : SrcTo w0 g A code.length c M w) (hm : M ≤ 1000000) (hn0 : -1000000 ≤ n) (hn : n ≤ 1000000) :
    Calls Tryz.prog 51 #[.pointer (some ⟨g, 0, none⟩), .int .i64 n] w fun r w' => ∃ b : Bool, r = .returned (.bool b) ∧ SrcTo w0 g A code.length c (M + 1) w' ∧ Turn [g] w w' := by
  go_enter Tryz.func51, Tryz.ntmps51
  go_wp2_with fail
  refine (next_c hr hs hm hn0 hn).mono ?_
  rintro e w1 ⟨v, rfl, -, -, hs1, hT⟩
  go_wp2_with fail
  go_ret
  exact ⟨_, rfl, hs1, hT⟩
set_option maxRecDepth 100000 in
set_option maxHeartbeats 2000000 in
theorem pick_c {w0 : World} {g : Nat} {code : List (Fin 256)} {A : Option Addr} {c M : Nat} {w : World} {b : Nat} (xs : List Int) (hr : RdS kU8 w0 A c code) (hs : SrcTo w0 g A code.length c M w) (hm : M ≤ 1000000) (hB : Blk w b 2 (xs.map (Value.int .i64))) (hbg : b ≠ g) (h1 : 1 ≤ xs.length) (hl : xs.length ≤ 1000) :
    Calls Tryz.prog 26 #[.pointer (some ⟨g, 0, none⟩), .slice (some ⟨b, 0, none⟩) xs.length xs.length] w fun r w' => ∃ v : Int, v ∈ xs ∧ r = .returned (.int .i64 v) ∧ SrcTo w0 g A code.length c (M + 1) w' ∧ Turn [g] w w' := by
  go_enter Tryz.func26, Tryz.ntmps26
  go_wp2_with fail
  refine (next_c hr hs hm (by omega) (by omega)).mono ?_
  rintro e w1 ⟨v, rfl, v1, -, hs1, hT⟩
  have hv : v < xs.length := by have := v1 (by omega); omega
  have hv' : (v : Int) < (xs.length : Int) := by omega
  have hc : w1.cell? ⟨b, v, none⟩ = some (.int .i64 xs[v]) := (hB.turn hT (by simpa using hbg)).cell (by rw [List.getElem?_map, List.getElem?_eq_getElem hv]; rfl)
  have hmem : xs[v] ∈ xs := List.getElem_mem hv
  generalize xs[v] = z at hc hmem
  clear hs hB v1
  go_wp2_with fail
  go_ret
  exact ⟨z, hmem, rfl, hs1, hT⟩
end Go.Proofs.YtfblopmploohkaaGreatDoor
