/- Faults of operations, entries and logs: what the program's and the reference's functions come to. -/
import Derived.Test.YtdjfehjddfbbjaaGreatDoorTy
import Derived.Test.YtdjfehjddfbbjaaGreatDoorProg
set_option linter.unusedVariables false
set_option linter.unusedSimpArgs false
namespace Go.Proofs.YtdjfehjddfbbjaaGreatDoor
open Go Go.RowKit Mk

def wi (n l h : Int) : Bool := decide (l ≤ n) && decide (n ≤ h)
theorem wk : (wi 1 1 6 = true ∧ wi 2 1 6 = true ∧ wi 3 1 6 = true ∧ wi 4 1 6 = true ∧ wi 5 1 6 = true ∧ wi 6 1 6 = true) ∧ wi 1 2 4 = false ∧ wi 2 2 4 = true ∧ wi 3 2 4 = true ∧ wi 4 2 4 = true ∧ wi 5 2 4 = false ∧ wi 6 2 4 = false := by decide
def opF (o : SOp) : Int :=
  if !wi o.Kind 1 6 then 1 else
  if !wi o.Vol 1 99 || !(if o.Kind == 1 then wi o.Value 1 16 else if o.Kind == 2 then wi o.Value 0 255 else if o.Kind == 5 then wi o.Value 1 99 else true) || wi o.Kind 2 4 && !wi o.At 0 15 then 3
  else if !wi o.Kind 2 4 && o.At != 0 || !(o.Kind == 1 || o.Kind == 2 || o.Kind == 5) && o.Value != 0 then 1 else 0
def entryF (x : SEntry) : Int := if !wi x.Client 1 99 || !wi x.Seq 1 999 then 3 else opF x.Op
/-- The first code that is not 0. -/
def first {α : Type} (f : α → Int) : List α → Int
  | [] => 0
  | x :: xs => if f x != 0 then f x else first f xs
def logF (xs : List SEntry) : Int := if 40 < xs.length then 2 else first entryF xs
theorem first_drop {α : Type} (f : α → Int) (xs : List α) (k : Nat) (h : k < xs.length) : first f (xs.drop k) = if f xs[k] != 0 then f xs[k] else first f (xs.drop (k + 1)) := by
  rw [List.drop_eq_getElem_cons h]; rfl

theorem within_c (n l h : Int) (w : World) : Calls Tryz.prog 33 #[.int .i64 n, .int .i64 l, .int .i64 h] w fun e w' => e = .returned (.bool (wi n l h)) ∧ w = w' := by
  go_enter Tryz.func33, Tryz.ntmps33
  go_wp2
  all_goals (go_ret; exact ⟨by simp [wi] <;> omega, rfl⟩)
theorem isId_c (n : Int) (w : World) : Calls Tryz.prog 76 #[.int .i64 n] w fun e w' => e = .returned (.bool (wi n 1 99)) ∧ w = w' := by
  go_enter Tryz.func76, Tryz.ntmps76
  go_wp2_with (go_at_call 33; refine (within_c _ _ _ _).mono ?_; rintro e w' ⟨rfl, rfl⟩)
  go_ret; exact ⟨rfl, rfl⟩
theorem isQuota_c (n : Int) (w : World) : Calls Tryz.prog 87 #[.int .i64 n] w fun e w' => e = .returned (.bool (wi n 1 16)) ∧ w = w' := by
  go_enter Tryz.func87, Tryz.ntmps87
  go_wp2_with (go_at_call 33; refine (within_c _ _ _ _).mono ?_; rintro e w' ⟨rfl, rfl⟩)
  go_ret; exact ⟨rfl, rfl⟩
theorem isByte_c (n : Int) (w : World) : Calls Tryz.prog 88 #[.int .i64 n] w fun e w' => e = .returned (.bool (wi n 0 255)) ∧ w = w' := by
  go_enter Tryz.func88, Tryz.ntmps88
  go_wp2_with (go_at_call 33; refine (within_c _ _ _ _).mono ?_; rintro e w' ⟨rfl, rfl⟩)
  go_ret; exact ⟨rfl, rfl⟩
theorem isTreePlace_c (n : Int) (w : World) : Calls Tryz.prog 89 #[.int .i64 n] w fun e w' => e = .returned (.bool (wi n 0 15)) ∧ w = w' := by
  go_enter Tryz.func89, Tryz.ntmps89
  go_wp2_with (go_at_call 33; refine (within_c _ _ _ _).mono ?_; rintro e w' ⟨rfl, rfl⟩)
  go_ret; exact ⟨rfl, rfl⟩

set_option maxHeartbeats 1000000 in
theorem opFault_c (o : SOp) (w : World) :
    Calls Tryz.prog 77 #[.agg #[.int .i64 o.Kind, .int .i64 o.Vol, .int .i64 o.At, .int .i64 o.Value]] w fun e w' => e = .returned (.int .i64 (opF o)) ∧ Below w.heap.size w w' := by
  go_enter Tryz.func77, Tryz.ntmps77
  go_wp2_with (first | (go_at_call 33; refine (within_c _ _ _ _).mono ?_; rintro e w' ⟨rfl, rfl⟩) | (go_at_call 87; refine (isQuota_c _ _).mono ?_; rintro e w' ⟨rfl, rfl⟩) | (go_at_call 88; refine (isByte_c _ _).mono ?_; rintro e w' ⟨rfl, rfl⟩)| (go_at_call 76; refine (isId_c _ _).mono ?_; rintro e w' ⟨rfl, rfl⟩)| (go_at_call 89; refine (isTreePlace_c _ _).mono ?_; rintro e w' ⟨rfl, rfl⟩))
  all_goals (go_ret; exact ⟨by simp_all [opF], below_alloc (Below.refl _ _) _⟩)

theorem entryFault_c (x : SEntry) (w : World) :
    Calls Tryz.prog 63 #[.agg #[.int .i64 x.Client, .int .i64 x.Seq, .int .i64 x.Op.Kind, .int .i64 x.Op.Vol, .int .i64 x.Op.At, .int .i64 x.Op.Value]] w fun e w' => e = .returned (.int .i64 (entryF x)) ∧ Below w.heap.size w w' := by
  go_enter Tryz.func63, Tryz.ntmps63
  go_wp2_with (first | (go_at_call 33; refine (within_c _ _ _ _).mono ?_; rintro e w' ⟨rfl, rfl⟩) | (go_at_call 76; refine (isId_c _ _).mono ?_; rintro e w' ⟨rfl, rfl⟩) | (go_at_call 77; refine (opFault_c x.Op _).mono ?_; rintro e w' ⟨rfl, hb⟩))
  all_goals (go_ret; exact ⟨by simp_all [entryF], by first | exact below_alloc (Below.refl _ _) _ | exact below_trans (below_alloc (Below.refl _ _) _) hb⟩)

set_option maxHeartbeats 1000000 in
theorem logFault_c (xs : List SEntry) (A : Option Addr) (c : Nat) (w : World) (h : RdS kEntry w A c xs) :
    Calls Tryz.prog 36 #[.slice A xs.length c] w fun e w' => e = .returned (.int .i64 (logF xs)) ∧ Below w.heap.size w w' := by
  have hlen : xs.length ≤ 9223372036854775807 := by have h1 := h.1; have h2 := h.2.1; unfold maxLen at h2; omega
  by_cases h40 : 40 < xs.length
  · go_enter Tryz.func36, Tryz.ntmps36
    go_wp2
    go_ret
    exact ⟨by simp [logF, h40], Below.refl _ _⟩
  · go_enter Tryz.func36, Tryz.ntmps36
    go_wp2
    go_loopw [11] (fun i W => ∃ k : Nat, k ≤ xs.length ∧ i = .int .i64 k ∧ first entryF (xs.drop k) = first entryF xs ∧ Below w.heap.size w W) (fun i _ => xs.length - (intOf i).toNat)
    case atStart => exact ⟨0, Nat.zero_le _, rfl, rfl, Below.refl _ _⟩
    case round =>
      obtain ⟨k, hk, rfl, hf, hb⟩ := hrel
      by_cases hlt : k < xs.length
      · have hs := first_drop entryF xs k hlt
        have HS := Lib.hid (hs.symm.trans hf); clear hs hf
        obtain ⟨a, rfl, hat⟩ := (h.below hb).at_ hlt
        obtain ⟨f0, f1, f2, f3, f4, f5⟩ := atEntry hat
        simp only [show kEntry.sz = 6 from rfl] at f0 f1 f2 f3 f4 f5
        clear hat h
        go_wp2_with (go_at_call 63; refine (entryFault_c xs[k] _).mono ?_; rintro e w' ⟨rfl, hb1⟩)
        · go_ret
          exact ⟨ret_int (by rw [logF, if_neg h40, ← HS.out, if_pos (by assumption)]), by repeat (first | assumption | exact Below.refl _ _ | (refine below_trans ?_ (by assumption)) | apply below_alloc | apply below_drewN | apply Below.drew)⟩
        · exact ⟨⟨k + 1, hlt, by go_num, by rw [← HS.out, if_neg (by simp_all)], by repeat (first | assumption | exact Below.refl _ _ | (refine below_trans ?_ (by assumption)) | apply below_alloc | apply below_drewN | apply Below.drew)⟩, by simp [intOf]; omega⟩
      · have HF := Lib.hid hf; clear hf
        go_wp2
        go_ret
        exact ⟨ret_int (by rw [logF, if_neg h40, ← HF.out, List.drop_of_length_le (by omega)]; rfl), by repeat (first | assumption | exact Below.refl _ _ | (refine below_trans ?_ (by assumption)) | apply below_alloc | apply below_drewN | apply Below.drew)⟩

/-! ### the reference's -/
theorem l1In_c (n l h : Int) (w : World) : Calls Tryz.prog 46 #[.int .i64 n, .int .i64 l, .int .i64 h] w fun e w' => e = .returned (.bool (wi n l h)) ∧ w = w' := by
  go_enter Tryz.func46, Tryz.ntmps46
  go_wp2
  all_goals (go_ret; exact ⟨by simp [wi] <;> omega, rfl⟩)
theorem l5Id_c (n : Int) (w : World) : Calls Tryz.prog 83 #[.int .i64 n] w fun e w' => e = .returned (.bool (wi n 1 99)) ∧ w = w' := by
  go_enter Tryz.func83, Tryz.ntmps83
  go_wp2_with (go_at_call 46; refine (l1In_c _ _ _ _).mono ?_; rintro e w' ⟨rfl, rfl⟩)
  go_ret; exact ⟨rfl, rfl⟩
theorem l4Place_c (n : Int) (w : World) : Calls Tryz.prog 84 #[.int .i64 n] w fun e w' => e = .returned (.bool (wi n 0 15)) ∧ w = w' := by
  go_enter Tryz.func84, Tryz.ntmps84
  go_wp2_with (go_at_call 46; refine (l1In_c _ _ _ _).mono ?_; rintro e w' ⟨rfl, rfl⟩)
  go_ret; exact ⟨rfl, rfl⟩
theorem l3Data_c (n : Int) (w : World) : Calls Tryz.prog 85 #[.int .i64 n] w fun e w' => e = .returned (.bool (wi n 0 255)) ∧ w = w' := by
  go_enter Tryz.func85, Tryz.ntmps85
  go_wp2_with (go_at_call 46; refine (l1In_c _ _ _ _).mono ?_; rintro e w' ⟨rfl, rfl⟩)
  go_ret; exact ⟨rfl, rfl⟩
set_option maxHeartbeats 2000000 in
theorem opFaultS_c (o : SOp) (w : World) :
    Calls Tryz.prog 72 #[.agg #[.int .i64 o.Kind, .int .i64 o.Vol, .int .i64 o.At, .int .i64 o.Value]] w fun e w' => e = .returned (.int .i64 (opF o)) ∧ Below w.heap.size w w' := by
  obtain ⟨K, V, T, X⟩ := o
  dsimp only
  by_cases h : 1 ≤ K ∧ K ≤ 6
  · have : K = 1 ∨ K = 2 ∨ K = 3 ∨ K = 4 ∨ K = 5 ∨ K = 6 := by omega
    clear h
    rcases this with rfl | rfl | rfl | rfl | rfl | rfl
    all_goals
      go_enter Tryz.func72, Tryz.ntmps72
      go_wp2_with (first | (go_at_call 46; refine (l1In_c _ _ _ _).mono ?_; rintro e w' ⟨rfl, rfl⟩) | (go_at_call 83; refine (l5Id_c _ _).mono ?_; rintro e w' ⟨rfl, rfl⟩) | (go_at_call 84; refine (l4Place_c _ _).mono ?_; rintro e w' ⟨rfl, rfl⟩)| (go_at_call 85; refine (l3Data_c _ _).mono ?_; rintro e w' ⟨rfl, rfl⟩))
      all_goals (go_ret; exact ⟨by simp_all [opF, wk], below_alloc (Below.refl _ _) _⟩)
  · have h : wi K 1 6 = false := by simp [wi]; omega
    go_enter Tryz.func72, Tryz.ntmps72
    go_wp2_with (first | (go_at_call 46; refine (l1In_c _ _ _ _).mono ?_; rintro e w' ⟨rfl, rfl⟩))
    all_goals (go_ret; exact ⟨by simp_all [opF], below_alloc (Below.refl _ _) _⟩)
end Go.Proofs.YtdjfehjddfbbjaaGreatDoor
