/- What the laws' comparisons come to where both sides read alike (written by gD3.py, own work). -/
import Derived.Test.YtnbenhkbcodlfaaTy
import Derived.Test.YtnbenhkbcodlfaaRo
import Derived.Test.YtnbenhkbcodlfaaProg
set_option linter.unusedVariables false
set_option linter.unusedSimpArgs false
namespace Go.Proofs.Ytnbenhkbcodlfaa
open Go Go.RowKit Mk
theorem nblk_allocE (w : World) (o : Obj) : (w.alloc o).heap.size = w.heap.size + 1 := Deep.nblk_alloc w o
set_option maxRecDepth 100000 in
set_option maxHeartbeats 1000000 in
theorem eqInt64S_c (xs : List Int) (A : Option Addr) (c : Nat) (B : Option Addr) (d : Nat) (w : World) (h : RdS kInt w A c xs) (h' : RdS kInt w B d xs) :
    Calls Try.prog 31 #[.slice A xs.length c, .slice B xs.length d] w fun e w' => e = .returned (.bool true) ∧ Below w.heap.size w w' := by
  have hn := h.le63
  go_enter Try.func31, Try.ntmps31
  go_wp2_with fail
  go_loopw [5] (fun i W => ∃ k : Nat, k ≤ xs.length ∧ i = .int .i64 k ∧ Below w.heap.size w W) (fun i _ => xs.length - (intOf i).toNat)
  case atStart => exact ⟨0, Nat.zero_le _, rfl, Below.refl _ _⟩
  case round =>
    obtain ⟨k, hk, rfl, hb⟩ := hrel
    by_cases hlt : k < xs.length
    · have hlt' : (k : Int) < (xs.length : Int) := by omega
      obtain ⟨a, ea, hx⟩ := (h.below hb).at_ hlt
      obtain ⟨b, eb, hy⟩ := (h'.below hb).at_ hlt
      subst ea
      subst eb
      simp only [show kInt.sz = 1 from rfl, Nat.mul_one] at hx hy
      generalize xs[k] = x at hx hy
      obtain ⟨cs, hl, hcs⟩ := hx
      obtain rfl := hcs
      obtain ⟨cs, hl2, hcs⟩ := hy
      obtain rfl := hcs
      have q0 := hl.c0
      have p0 := hl2.c0
      clear hl hl2
      go_wp2_with fail
      go_quiet (fail)
      go_wp2_with fail
      exact ⟨⟨k + 1, hlt, by go_num, by repeat (first | assumption | exact Below.refl _ _ | (refine below_trans ?_ (by assumption)) | apply below_alloc | apply below_drewN | apply Below.drew)⟩, by simp [intOf]; omega⟩
    · have hk' : k = xs.length := by omega
      subst hk'
      go_wp2
      go_ret; exact ⟨rfl, hb⟩
end Go.Proofs.Ytnbenhkbcodlfaa
