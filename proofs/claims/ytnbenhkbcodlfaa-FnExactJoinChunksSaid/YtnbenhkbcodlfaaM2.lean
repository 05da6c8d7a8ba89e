/- Marks of whole values; marks that are held (written by gM.py, own work). -/
import Derived.Test.YtnbenhkbcodlfaaM1
set_option linter.unusedVariables false
set_option linter.unusedSimpArgs false
namespace Go.Proofs.Ytnbenhkbcodlfaa
open Go Go.RowKit Mk

set_option maxRecDepth 100000 in
set_option maxHeartbeats 2000000 in
theorem heldInt64S_c (xs : List Int) (A : Option Addr) (c : Nat) (k : Int) (w : World) (h : RdS kInt w A c (mkL mkI ctI k xs)) (hk : 0 ≤ k) (hb : k + (ctL ctI xs : Nat) ≤ 4611686018427387904) :
    Calls Try.prog 33 #[.slice A xs.length c, .int .i64 k] w fun e' w' => e' = .returned (.int .i64 (k + (ctL ctI xs : Nat))) ∧ w' = w := by
  have hlen := h.le63
  rw [mkL_length] at hlen
  go_enter Try.func33, Try.ntmps33
  go_wp2_with fail
  go_loopw [1, 5] (fun q i W => ∃ m : Nat, m ≤ xs.length ∧ i = .int .i64 m ∧ q = .int .i64 (k + (ctL ctI (xs.take m) : Nat)) ∧ W = w) (fun _ i _ => xs.length - (intOf i).toNat)
  case atStart => exact ⟨0, Nat.zero_le _, rfl, by simp [ctL], rfl⟩
  case round =>
    obtain ⟨m, hm, rfl, rfl, rfl⟩ := hrel
    by_cases hlt : m < xs.length
    · have hlt' : (m : Int) < (xs.length : Int) := by omega
      have hc1 := ctL_take ctI xs m hlt
      have hc2 := ctL_le ctI xs (m + 1)
      obtain ⟨a, ea, hx⟩ := h.at_ (k := m) (by rw [mkL_length]; exact hlt)
      subst ea
      rw [mkL_get _ _ _ _ _ hlt] at hx
      clear h
      generalize xs[m] = x at hx hc1
      rw [hc1] at hc2
      have HG := Lib.hid hc1
      generalize hK : k + (ctL ctI (xs.take m) : Int) = q at hx ⊢
      have HQ := Lib.hid hK
      have hq0 : 0 ≤ q := by omega
      have hq1 : q + (ctI x : Nat) ≤ 4611686018427387904 := by omega
      clear hK hc1 hc2 hb hk
      simp only [show kInt.sz = 1 from rfl, Nat.mul_one] at hx
      obtain ⟨cs, hl, hcs⟩ := hx
      obtain rfl := hcs
      have q0 := hl.c0
      simp only [mkI] at q0
      clear hl
      replace hq1 : q + 1 ≤ 4611686018427387904 := by simp only [ctI] at hq1; omega
      go_wp2_with fail
      exact ⟨⟨m + 1, hlt, by go_num, congrArg (Value.int .i64) (by have h1 := HG.out; have h2 := HQ.out; simp only [ctI] at h1; omega), by first | rfl | trivial⟩, by simp [intOf]; omega⟩
    · have hk' : m = xs.length := by omega
      subst hk'
      rw [List.take_length]
      clear h
      go_wp2_with fail
      go_ret
      exact ⟨rfl, rfl⟩

end Go.Proofs.Ytnbenhkbcodlfaa
