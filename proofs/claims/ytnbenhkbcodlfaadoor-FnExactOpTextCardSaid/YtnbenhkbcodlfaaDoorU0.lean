/- Faults of operations on both sides (out of A1, own work). -/
import Derived.Test.YtnbenhkbcodlfaaDoorTy
import Derived.Test.YtnbenhkbcodlfaaDoorRo
import Derived.Test.YtnbenhkbcodlfaaDoorProg
set_option linter.unusedVariables false
set_option linter.unusedSimpArgs false
namespace Go.Proofs.YtnbenhkbcodlfaaDoor
open Go Go.RowKit Mk
def wi (n l h : Int) : Bool := decide (l ≤ n) && decide (n ≤ h)
theorem wk : (wi 1 1 6 = true ∧ wi 2 1 6 = true ∧ wi 3 1 6 = true ∧ wi 4 1 6 = true ∧ wi 5 1 6 = true ∧ wi 6 1 6 = true) ∧ wi 1 2 4 = false ∧ wi 2 2 4 = true ∧ wi 3 2 4 = true ∧ wi 4 2 4 = true ∧ wi 5 2 4 = false ∧ wi 6 2 4 = false := by decide
def opF (o : SOp) : Int :=
  if !wi o.Kind 1 6 then 1 else
  if !wi o.Vol 1 99 || !(if o.Kind == 1 then wi o.Value 1 16 else if o.Kind == 2 then wi o.Value 0 255 else if o.Kind == 5 then wi o.Value 1 99 else true) || wi o.Kind 2 4 && !wi o.At 0 15 then 3
  else if !wi o.Kind 2 4 && o.At != 0 || !(o.Kind == 1 || o.Kind == 2 || o.Kind == 5) && o.Value != 0 then 1 else 0
theorem within_c (n l h : Int) (w : World) : Calls Tryd.prog 33 #[.int .i64 n, .int .i64 l, .int .i64 h] w fun e w' => e = .returned (.bool (wi n l h)) ∧ w = w' := by
  go_enter Tryd.func33, Tryd.ntmps33
  go_wp2
  all_goals (go_ret; exact ⟨by simp [wi] <;> omega, rfl⟩)
theorem isId_c (n : Int) (w : World) : Calls Tryd.prog 36 #[.int .i64 n] w fun e w' => e = .returned (.bool (wi n 1 99)) ∧ w = w' := by
  go_enter Tryd.func36, Tryd.ntmps36
  go_wp2_with (go_at_call 33; refine (within_c _ _ _ _).mono ?_; rintro e w' ⟨rfl, rfl⟩)
  go_ret; exact ⟨rfl, rfl⟩
theorem isQuota_c (n : Int) (w : World) : Calls Tryd.prog 34 #[.int .i64 n] w fun e w' => e = .returned (.bool (wi n 1 16)) ∧ w = w' := by
  go_enter Tryd.func34, Tryd.ntmps34
  go_wp2_with (go_at_call 33; refine (within_c _ _ _ _).mono ?_; rintro e w' ⟨rfl, rfl⟩)
  go_ret; exact ⟨rfl, rfl⟩
theorem isByte_c (n : Int) (w : World) : Calls Tryd.prog 35 #[.int .i64 n] w fun e w' => e = .returned (.bool (wi n 0 255)) ∧ w = w' := by
  go_enter Tryd.func35, Tryd.ntmps35
  go_wp2_with (go_at_call 33; refine (within_c _ _ _ _).mono ?_; rintro e w' ⟨rfl, rfl⟩)
  go_ret; exact ⟨rfl, rfl⟩
theorem isTreePlace_c (n : Int) (w : World) : Calls Tryd.prog 37 #[.int .i64 n] w fun e w' => e = .returned (.bool (wi n 0 15)) ∧ w = w' := by
  go_enter Tryd.func37, Tryd.ntmps37
  go_wp2_with (go_at_call 33; refine (within_c _ _ _ _).mono ?_; rintro e w' ⟨rfl, rfl⟩)
  go_ret; exact ⟨rfl, rfl⟩
set_option maxHeartbeats 1000000 in
theorem opFault_c (o : SOp) (w : World) :
    Calls Tryd.prog 23 #[.agg #[.int .i64 o.Kind, .int .i64 o.Vol, .int .i64 o.At, .int .i64 o.Value]] w fun e w' => e = .returned (.int .i64 (opF o)) ∧ Below w.heap.size w w' := by
  go_enter Tryd.func23, Tryd.ntmps23
  go_wp2_with (first | (go_at_call 33; refine (within_c _ _ _ _).mono ?_; rintro e w' ⟨rfl, rfl⟩) | (go_at_call 34; refine (isQuota_c _ _).mono ?_; rintro e w' ⟨rfl, rfl⟩) | (go_at_call 35; refine (isByte_c _ _).mono ?_; rintro e w' ⟨rfl, rfl⟩)| (go_at_call 36; refine (isId_c _ _).mono ?_; rintro e w' ⟨rfl, rfl⟩)| (go_at_call 37; refine (isTreePlace_c _ _).mono ?_; rintro e w' ⟨rfl, rfl⟩))
  all_goals (go_ret; exact ⟨by simp_all [opF], below_alloc (Below.refl _ _) _⟩)
theorem l1In_c (n l h : Int) (w : World) : Calls Tryd.prog 28 #[.int .i64 n, .int .i64 l, .int .i64 h] w fun e w' => e = .returned (.bool (wi n l h)) ∧ w = w' := by
  go_enter Tryd.func28, Tryd.ntmps28
  go_wp2
  all_goals (go_ret; exact ⟨by simp [wi] <;> omega, rfl⟩)
theorem l5Id_c (n : Int) (w : World) : Calls Tryd.prog 29 #[.int .i64 n] w fun e w' => e = .returned (.bool (wi n 1 99)) ∧ w = w' := by
  go_enter Tryd.func29, Tryd.ntmps29
  go_wp2_with (go_at_call 28; refine (l1In_c _ _ _ _).mono ?_; rintro e w' ⟨rfl, rfl⟩)
  go_ret; exact ⟨rfl, rfl⟩
theorem l4Place_c (n : Int) (w : World) : Calls Tryd.prog 30 #[.int .i64 n] w fun e w' => e = .returned (.bool (wi n 0 15)) ∧ w = w' := by
  go_enter Tryd.func30, Tryd.ntmps30
  go_wp2_with (go_at_call 28; refine (l1In_c _ _ _ _).mono ?_; rintro e w' ⟨rfl, rfl⟩)
  go_ret; exact ⟨rfl, rfl⟩
theorem l3Data_c (n : Int) (w : World) : Calls Tryd.prog 31 #[.int .i64 n] w fun e w' => e = .returned (.bool (wi n 0 255)) ∧ w = w' := by
  go_enter Tryd.func31, Tryd.ntmps31
  go_wp2_with (go_at_call 28; refine (l1In_c _ _ _ _).mono ?_; rintro e w' ⟨rfl, rfl⟩)
  go_ret; exact ⟨rfl, rfl⟩
set_option maxHeartbeats 2000000 in
theorem opFaultS_c (o : SOp) (w : World) :
    Calls Tryd.prog 19 #[.agg #[.int .i64 o.Kind, .int .i64 o.Vol, .int .i64 o.At, .int .i64 o.Value]] w fun e w' => e = .returned (.int .i64 (opF o)) ∧ Below w.heap.size w w' := by
  obtain ⟨K, V, T, X⟩ := o
  dsimp only
  by_cases h : 1 ≤ K ∧ K ≤ 6
  · have : K = 1 ∨ K = 2 ∨ K = 3 ∨ K = 4 ∨ K = 5 ∨ K = 6 := by omega
    clear h
    rcases this with rfl | rfl | rfl | rfl | rfl | rfl
    all_goals
      go_enter Tryd.func19, Tryd.ntmps19
      go_wp2_with (first | (go_at_call 28; refine (l1In_c _ _ _ _).mono ?_; rintro e w' ⟨rfl, rfl⟩) | (go_at_call 29; refine (l5Id_c _ _).mono ?_; rintro e w' ⟨rfl, rfl⟩) | (go_at_call 30; refine (l4Place_c _ _).mono ?_; rintro e w' ⟨rfl, rfl⟩)| (go_at_call 31; refine (l3Data_c _ _).mono ?_; rintro e w' ⟨rfl, rfl⟩))
      all_goals (go_ret; exact ⟨by simp_all [opF, wk], below_alloc (Below.refl _ _) _⟩)
  · have h : wi K 1 6 = false := by simp [wi]; omega
    go_enter Tryd.func19, Tryd.ntmps19
    go_wp2_with (first | (go_at_call 28; refine (l1In_c _ _ _ _).mono ?_; rintro e w' ⟨rfl, rfl⟩))
    all_goals (go_ret; exact ⟨by simp_all [opF], below_alloc (Below.refl _ _) _⟩)
theorem opF_zero {o : SOp} (h : opF o = 0) : (1 ≤ o.Kind ∧ o.Kind ≤ 6) ∧ (1 ≤ o.Vol ∧ o.Vol ≤ 99) ∧ (0 ≤ o.At ∧ o.At ≤ 15) ∧ (0 ≤ o.Value ∧ o.Value ≤ 255) := by
  obtain ⟨K, V, T, X⟩ := o
  dsimp only
  unfold opF at h
  dsimp only at h
  split at h
  · cases h
  rename_i h1
  have hK : 1 ≤ K ∧ K ≤ 6 := by simpa [wi] using h1
  have : K = 1 ∨ K = 2 ∨ K = 3 ∨ K = 4 ∨ K = 5 ∨ K = 6 := by omega
  rcases this with rfl | rfl | rfl | rfl | rfl | rfl <;> simp [wi] at h <;> omega
end Go.Proofs.YtnbenhkbcodlfaaDoor
