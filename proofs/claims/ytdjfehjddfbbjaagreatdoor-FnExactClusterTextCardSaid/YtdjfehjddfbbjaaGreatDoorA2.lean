/- slices.IndexFunc and ContainsFunc at this program's types, over whatever predicate (written by genfind.py, own work). -/
import Derived.Test.YtdjfehjddfbbjaaGreatDoorA1
set_option linter.unusedVariables false
set_option linter.unusedSimpArgs false
namespace Go.Proofs.YtdjfehjddfbbjaaGreatDoor
open Go Go.RowKit Mk
/-- What is asked of a predicate: in every later world it answers p of the element at hand. -/
def Tells {α : Type} (d : Kd α) (g : Nat) (cb : Array Value) (p : α → Bool) (w : World) (xs : List α) (mk : List Value → Value) : Prop :=
  ∀ (k : Nat) (hk : k < xs.length) (W : World) (cs : List Value), Below w.heap.size w W → d.Rd W cs xs[k] → Calls Tryz.prog g (#[mk cs] ++ cb) W fun e W' => e = .returned (.bool (p xs[k])) ∧ Below W.heap.size W W'
def one (cs : List Value) : Value := cs.headD undef
def agg (cs : List Value) : Value := .agg cs.toArray

set_option maxHeartbeats 1000000 in
theorem indexFunc_int (g : Nat) (cb : Array Value) (eg : ∀ args w, (callFunc g args).run Tryz.prog w = .ok (.enter g args) w) (p : Int → Bool) (xs : List Int) (A : Option Addr) (c : Nat) (w : World) (h : RdS kInt w A c xs) (hp : Tells kInt g cb p w xs one) :
    Calls Tryz.prog 75 #[.slice A xs.length c, .func (.func g) #[] cb] w fun e w' => e = .returned (.int .i64 (idx p xs)) ∧ Below w.heap.size w w' := by
  have hlen : xs.length ≤ 9223372036854775807 := by have h1 := h.1; have h2 := h.2.1; unfold maxLen at h2; omega
  go_enter Tryz.func75, Tryz.ntmps75
  go_wp2
  go_loopw [8] (fun i W => ∃ k : Nat, k ≤ xs.length ∧ i = .int .i64 k ∧ (xs.take k).any p = false ∧ Below w.heap.size w W) (fun i _ => xs.length - (intOf i).toNat)
  case atStart => exact ⟨0, Nat.zero_le _, rfl, by simp, Below.refl _ _⟩
  case round =>
    obtain ⟨k, hk, rfl, hf, hb⟩ := hrel
    by_cases hlt : k < xs.length
    · have HS := Lib.hid hf; clear hf
      have hlt' : (k : Int) < (xs.length : Int) := by omega
      obtain ⟨a, cs, rfl, hl, hr⟩ := (h.below hb).at (List.getElem?_eq_getElem hlt)
      have hcall := hp k hlt wr cs hb hr
      obtain rfl := hr
      have f0 := hl.c0
      simp only [show kInt.sz = 1 from rfl, Nat.mul_one] at f0
      simp only [one, List.headD_cons] at hcall
      clear hl h hp
      generalize hy : xs[k] = y at hcall f0
      have HY := Lib.hid hy; clear hy
      cases hq : p y with
      | true =>
        rw [hq] at hcall
        go_wp2_with (go_at_fn g; refine hcall.mono ?_; rintro e w' ⟨rfl, hb'⟩)
        go_ret
        exact ⟨ret_int (idx_yes hlt (by rw [HY.out]; exact hq) HS.out).symm, by repeat (first | assumption | exact Below.refl _ _ | (refine below_trans ?_ (by assumption)) | apply below_alloc | apply below_drewN | apply Below.drew)⟩
      | false =>
        rw [hq] at hcall
        go_wp2_with (go_at_fn g; refine hcall.mono ?_; rintro e w' ⟨rfl, hb'⟩)
        exact ⟨⟨k + 1, hlt, by go_num, by rw [any_take_succ hlt, HS.out, HY.out, hq]; rfl, by repeat (first | assumption | exact Below.refl _ _ | (refine below_trans ?_ (by assumption)) | apply below_alloc | apply below_drewN | apply Below.drew)⟩, by simp [intOf]; omega⟩
    · have HF := Lib.hid hf; clear hf
      go_wp2
      go_ret
      exact ⟨ret_int (idx_none (by have := HF.out; rwa [List.take_of_length_le (by omega)] at this)).symm, by repeat (first | assumption | exact Below.refl _ _ | (refine below_trans ?_ (by assumption)) | apply below_alloc | apply below_drewN | apply Below.drew)⟩
theorem containsFunc_int (g : Nat) (cb : Array Value) (eg : ∀ args w, (callFunc g args).run Tryz.prog w = .ok (.enter g args) w) (p : Int → Bool) (xs : List Int) (A : Option Addr) (c : Nat) (w : World) (h : RdS kInt w A c xs) (hp : Tells kInt g cb p w xs one) :
    Calls Tryz.prog 59 #[.slice A xs.length c, .func (.func g) #[] cb] w fun e w' => e = .returned (.bool (xs.any p)) ∧ Below w.heap.size w w' := by
  rw [← idx_ge]
  go_enter Tryz.func59, Tryz.ntmps59
  go_wp2_with (go_at_call 75; refine (indexFunc_int g cb eg p xs A c _ h hp).mono ?_; rintro e w' ⟨rfl, hb⟩)
  go_ret
  exact ⟨rfl, hb⟩

end Go.Proofs.YtdjfehjddfbbjaaGreatDoor
