/- Faults of operations, entries and logs: what the program's and the reference's functions come to. -/
import Derived.Test.YtfblopmploohkaaGreatDoorZTy
import Derived.Test.YtfblopmploohkaaGreatDoorProg
set_option linter.unusedVariables false
set_option linter.unusedSimpArgs false
namespace Go.Proofs.YtfblopmploohkaaGreatDoor
open Go Go.RowKit Mk

def wi (n l h : Int) : Bool := decide (l ≤ n) && decide (n ≤ h)
theorem wk : (wi 1 1 6 = true ∧ wi 2 1 6 = true ∧ wi 3 1 6 = true ∧ wi 4 1 6 = true ∧ wi 5 1 6 = true ∧ wi 6 1 6 = true) ∧ wi 1 2 4 = false ∧ wi 2 2 4 = true ∧ wi 3 2 4 = true ∧ wi 4 2 4 = true ∧ wi 5 2 4 = false ∧ wi 6 2 4 = false := by decide
def opF (o : SOp) : Int :=
  if !wi o.Kind 1 6 then 1 else
  if !wi o.Vol 1 99 || !(if o.Kind == 1 then wi o.Value 1 16 else if o.Kind == 2 then wi o.Value 0 255 else if o.Kind == 5 then wi o.Value 1 99 else true) || wi o.Kind 2 4 && !wi o.At 0 15 then 3
  else if !wi o.Kind 2 4 && o.At != 0 || !(o.Kind == 1 || o.Kind == 2 || o.Kind == 5) && o.Value != 0 then 1 else 0
def entryF (x : SEntry) : Int := if !wi x.Client 1 99 || !wi x.Seq 1 999 then 3 else opF x.Op
/-- The first code that is not 0. -/
def first {α : Type} (f : α → Int) : List α → Int
  | [] => 0
  | x :: xs => if f x != 0 then f x else first f xs
def logF (xs : List SEntry) : Int := if 40 < xs.length then 2 else first entryF xs
theorem first_drop {α : Type} (f : α → Int) (xs : List α) (k : Nat) (h : k < xs.length) : first f (xs.drop k) = if f xs[k] != 0 then f xs[k] else first f (xs.drop (k + 1)) := by
  rw [List.drop_eq_getElem_cons h]; rfl

theorem within_c (n l h : Int) (w : World) : Calls Tryz.prog 19 #[.int .i64 n, .int .i64 l, .int .i64 h] w fun e w' => e = .returned (.bool (wi n l h)) ∧ w = w' := by
  go_enter Tryz.func19, Tryz.ntmps19
  go_wp2
  all_goals (go_ret; exact ⟨by simp [wi] <;> omega, rfl⟩)
theorem isId_c (n : Int) (w : World) : Calls Tryz.prog 29 #[.int .i64 n] w fun e w' => e = .returned (.bool (wi n 1 99)) ∧ w = w' := by
  go_enter Tryz.func29, Tryz.ntmps29
  go_wp2_with (go_at_call 19; refine (within_c _ _ _ _).mono ?_; rintro e w' ⟨rfl, rfl⟩)
  go_ret; exact ⟨rfl, rfl⟩
theorem isQuota_c (n : Int) (w : World) : Calls Tryz.prog 27 #[.int .i64 n] w fun e w' => e = .returned (.bool (wi n 1 16)) ∧ w = w' := by
  go_enter Tryz.func27, Tryz.ntmps27
  go_wp2_with (go_at_call 19; refine (within_c _ _ _ _).mono ?_; rintro e w' ⟨rfl, rfl⟩)
  go_ret; exact ⟨rfl, rfl⟩
theorem isByte_c (n : Int) (w : World) : Calls Tryz.prog 28 #[.int .i64 n] w fun e w' => e = .returned (.bool (wi n 0 255)) ∧ w = w' := by
  go_enter Tryz.func28, Tryz.ntmps28
  go_wp2_with (go_at_call 19; refine (within_c _ _ _ _).mono ?_; rintro e w' ⟨rfl, rfl⟩)
  go_ret; exact ⟨rfl, rfl⟩
theorem isTreePlace_c (n : Int) (w : World) : Calls Tryz.prog 30 #[.int .i64 n] w fun e w' => e = .returned (.bool (wi n 0 15)) ∧ w = w' := by
  go_enter Tryz.func30, Tryz.ntmps30
  go_wp2_with (go_at_call 19; refine (within_c _ _ _ _).mono ?_; rintro e w' ⟨rfl, rfl⟩)
  go_ret; exact ⟨rfl, rfl⟩

set_option maxHeartbeats 1000000 in
theorem opFault_c (o : SOp) (w : World) :
    Calls Tryz.prog 13 #[.agg #[.int .i64 o.Kind, .int .i64 o.Vol, .int .i64 o.At, .int .i64 o.Value]] w fun e w' => e = .returned (.int .i64 (opF o)) ∧ Below w.heap.size w w' := by
  go_enter Tryz.func13, Tryz.ntmps13
  go_wp2_with (first | (go_at_call 19; refine (within_c _ _ _ _).mono ?_; rintro e w' ⟨rfl, rfl⟩) | (go_at_call 27; refine (isQuota_c _ _).mono ?_; rintro e w' ⟨rfl, rfl⟩) | (go_at_call 28; refine (isByte_c _ _).mono ?_; rintro e w' ⟨rfl, rfl⟩)| (go_at_call 29; refine (isId_c _ _).mono ?_; rintro e w' ⟨rfl, rfl⟩)| (go_at_call 30; refine (isTreePlace_c _ _).mono ?_; rintro e w' ⟨rfl, rfl⟩))
  all_goals (go_ret; exact ⟨by simp_all [opF], below_alloc (Below.refl _ _) _⟩)

theorem entryFault_c (x : SEntry) (w : World) :
    Calls Tryz.prog 63 #[.agg #[.int .i64 x.Client, .int .i64 x.Seq, .int .i64 x.Op.Kind, .int .i64 x.Op.Vol, .int .i64 x.Op.At, .int .i64 x.Op.Value]] w fun e w' => e = .returned (.int .i64 (entryF x)) ∧ Below w.heap.size w w' := by
  go_enter Tryz.func63, Tryz.ntmps63
  go_wp2_with (first | (go_at_call 19; refine (within_c _ _ _ _).mono ?_; rintro e w' ⟨rfl, rfl⟩) | (go_at_call 29; refine (isId_c _ _).mono ?_; rintro e w' ⟨rfl, rfl⟩) | (go_at_call 13; refine (opFault_c x.Op _).mono ?_; rintro e w' ⟨rfl, hb⟩))
  all_goals (go_ret; exact ⟨by simp_all [entryF], by first | exact below_alloc (Below.refl _ _) _ | exact below_trans (below_alloc (Below.refl _ _) _) hb⟩)

set_option maxHeartbeats 1000000 in
theorem logFault_c (xs : List SEntry) (A : Option Addr) (c : Nat) (w : World) (h : RdS kEntry w A c xs) :
    Calls Tryz.prog 41 #[.slice A xs.length c] w fun e w' => e = .returned (.int .i64 (logF xs)) ∧ Below w.heap.size w w' := by
  have hlen : xs.length ≤ 9223372036854775807 := by have h1 := h.1; have h2 := h.2.1; unfold maxLen at h2; omega
  by_cases h40 : 40 < xs.length
  · go_enter Tryz.func41, Tryz.ntmps41
    go_wp2
    go_ret
    exact ⟨by simp [logF, h40], Below.refl _ _⟩
  · go_enter Tryz.func41, Tryz.ntmps41
    go_wp2
    go_loopw [11] (fun i W => ∃ k : Nat, k ≤ xs.length ∧ i = .int .i64 k ∧ first entryF (xs.drop k) = first entryF xs ∧ Below w.heap.size w W) (fun i _ => xs.length - (intOf i).toNat)
    case atStart => exact ⟨0, Nat.zero_le _, rfl, rfl, Below.refl _ _⟩
    case round =>
      obtain ⟨k, hk, rfl, hf, hb⟩ := hrel
      by_cases hlt : k < xs.length
      · have hs := first_drop entryF xs k hlt
        have HS := Lib.hid (hs.symm.trans hf); clear hs hf
        obtain ⟨a, rfl, hat⟩ := (h.below hb).at_ hlt
        obtain ⟨f0, f1, f2, f3, f4, f5⟩ := atEntry hat
        simp only [show kEntry.sz = 6 from rfl] at f0 f1 f2 f3 f4 f5
        clear hat h
        go_wp2_with (go_at_call 63; refine (entryFault_c xs[k] _).mono ?_; rintro e w' ⟨rfl, hb1⟩)
        · go_ret
          exact ⟨ret_int (by rw [logF, if_neg h40, ← HS.out, if_pos (by assumption)]), by repeat (first | assumption | exact Below.refl _ _ | (refine below_trans ?_ (by assumption)) | apply below_alloc | apply below_drewN | apply Below.drew)⟩
        · exact ⟨⟨k + 1, hlt, by go_num, by rw [← HS.out, if_neg (by simp_all)], by repeat (first | assumption | exact Below.refl _ _ | (refine below_trans ?_ (by assumption)) | apply below_alloc | apply below_drewN | apply Below.drew)⟩, by simp [intOf]; omega⟩
      · have HF := Lib.hid hf; clear hf
        go_wp2
        go_ret
        exact ⟨ret_int (by rw [logF, if_neg h40, ← HF.out, List.drop_of_length_le (by omega)]; rfl), by repeat (first | assumption | exact Below.refl _ _ | (refine below_trans ?_ (by assumption)) | apply below_alloc | apply below_drewN | apply Below.drew)⟩

/-! ### the reference's -/
theorem l1In_c (n l h : Int) (w : World) : Calls Tryz.prog 33 #[.int .i64 n, .int .i64 l, .int .i64 h] w fun e w' => e = .returned (.bool (wi n l h)) ∧ w = w' := by
  go_enter Tryz.func33, Tryz.ntmps33
  go_wp2
  all_goals (go_ret; exact ⟨by simp [wi] <;> omega, rfl⟩)
theorem l5Id_c (n : Int) (w : World) : Calls Tryz.prog 34 #[.int .i64 n] w fun e w' => e = .returned (.bool (wi n 1 99)) ∧ w = w' := by
  go_enter Tryz.func34, Tryz.ntmps34
  go_wp2_with (go_at_call 33; refine (l1In_c _ _ _ _).mono ?_; rintro e w' ⟨rfl, rfl⟩)
  go_ret; exact ⟨rfl, rfl⟩
theorem l4Place_c (n : Int) (w : World) : Calls Tryz.prog 35 #[.int .i64 n] w fun e w' => e = .returned (.bool (wi n 0 15)) ∧ w = w' := by
  go_enter Tryz.func35, Tryz.ntmps35
  go_wp2_with (go_at_call 33; refine (l1In_c _ _ _ _).mono ?_; rintro e w' ⟨rfl, rfl⟩)
  go_ret; exact ⟨rfl, rfl⟩
theorem l3Data_c (n : Int) (w : World) : Calls Tryz.prog 36 #[.int .i64 n] w fun e w' => e = .returned (.bool (wi n 0 255)) ∧ w = w' := by
  go_enter Tryz.func36, Tryz.ntmps36
  go_wp2_with (go_at_call 33; refine (l1In_c _ _ _ _).mono ?_; rintro e w' ⟨rfl, rfl⟩)
  go_ret; exact ⟨rfl, rfl⟩
set_option maxHeartbeats 2000000 in
theorem opFaultS_c (o : SOp) (w : World) :
    Calls Tryz.prog 15 #[.agg #[.int .i64 o.Kind, .int .i64 o.Vol, .int .i64 o.At, .int .i64 o.Value]] w fun e w' => e = .returned (.int .i64 (opF o)) ∧ Below w.heap.size w w' := by
  obtain ⟨K, V, T, X⟩ := o
  dsimp only
  by_cases h : 1 ≤ K ∧ K ≤ 6
  · have : K = 1 ∨ K = 2 ∨ K = 3 ∨ K = 4 ∨ K = 5 ∨ K = 6 := by omega
    clear h
    rcases this with rfl | rfl | rfl | rfl | rfl | rfl
    all_goals
      go_enter Tryz.func15, Tryz.ntmps15
      go_wp2_with (first | (go_at_call 33; refine (l1In_c _ _ _ _).mono ?_; rintro e w' ⟨rfl, rfl⟩) | (go_at_call 34; refine (l5Id_c _ _).mono ?_; rintro e w' ⟨rfl, rfl⟩) | (go_at_call 35; refine (l4Place_c _ _).mono ?_; rintro e w' ⟨rfl, rfl⟩)| (go_at_call 36; refine (l3Data_c _ _).mono ?_; rintro e w' ⟨rfl, rfl⟩))
      all_goals (go_ret; exact ⟨by simp_all [opF, wk], below_alloc (Below.refl _ _) _⟩)
  · have h : wi K 1 6 = false := by simp [wi]; omega
    go_enter Tryz.func15, Tryz.ntmps15
    go_wp2_with (first | (go_at_call 33; refine (l1In_c _ _ _ _).mono ?_; rintro e w' ⟨rfl, rfl⟩))
    all_goals (go_ret; exact ⟨by simp_all [opF], below_alloc (Below.refl _ _) _⟩)
end Go.Proofs.YtfblopmploohkaaGreatDoor

/- slices.IndexFunc and ContainsFunc at this program's types, over whatever predicate (written by genfind.py, own work). -/
set_option linter.unusedVariables false
set_option linter.unusedSimpArgs false
namespace Go.Proofs.YtfblopmploohkaaGreatDoor
open Go Go.RowKit Mk
/-- What is asked of a predicate: in every later world it answers p of the element at hand. -/
def Tells {α : Type} (d : Kd α) (g : Nat) (cb : Array Value) (p : α → Bool) (w : World) (xs : List α) (mk : List Value → Value) : Prop :=
  ∀ (k : Nat) (hk : k < xs.length) (W : World) (cs : List Value), Below w.heap.size w W → d.Rd W cs xs[k] → Calls Tryz.prog g (#[mk cs] ++ cb) W fun e W' => e = .returned (.bool (p xs[k])) ∧ Below W.heap.size W W'
def one (cs : List Value) : Value := cs.headD undef
def agg (cs : List Value) : Value := .agg cs.toArray

set_option maxHeartbeats 1000000 in
theorem indexFunc_int (g : Nat) (cb : Array Value) (eg : ∀ args w, (callFunc g args).run Tryz.prog w = .ok (.enter g args) w) (p : Int → Bool) (xs : List Int) (A : Option Addr) (c : Nat) (w : World) (h : RdS kInt w A c xs) (hp : Tells kInt g cb p w xs one) :
    Calls Tryz.prog 85 #[.slice A xs.length c, .func (.func g) #[] cb] w fun e w' => e = .returned (.int .i64 (idx p xs)) ∧ Below w.heap.size w w' := by
  have hlen : xs.length ≤ 9223372036854775807 := by have h1 := h.1; have h2 := h.2.1; unfold maxLen at h2; omega
  go_enter Tryz.func85, Tryz.ntmps85
  go_wp2
  go_loopw [8] (fun i W => ∃ k : Nat, k ≤ xs.length ∧ i = .int .i64 k ∧ (xs.take k).any p = false ∧ Below w.heap.size w W) (fun i _ => xs.length - (intOf i).toNat)
  case atStart => exact ⟨0, Nat.zero_le _, rfl, by simp, Below.refl _ _⟩
  case round =>
    obtain ⟨k, hk, rfl, hf, hb⟩ := hrel
    by_cases hlt : k < xs.length
    · have HS := Lib.hid hf; clear hf
      have hlt' : (k : Int) < (xs.length : Int) := by omega
      obtain ⟨a, cs, rfl, hl, hr⟩ := (h.below hb).at (List.getElem?_eq_getElem hlt)
      have hcall := hp k hlt wr cs hb hr
      obtain rfl := hr
      have f0 := hl.c0
      simp only [show kInt.sz = 1 from rfl, Nat.mul_one] at f0
      simp only [one, List.headD_cons] at hcall
      clear hl h hp
      generalize hy : xs[k] = y at hcall f0
      have HY := Lib.hid hy; clear hy
      cases hq : p y with
      | true =>
        rw [hq] at hcall
        go_wp2_with (go_at_fn g; refine hcall.mono ?_; rintro e w' ⟨rfl, hb'⟩)
        go_ret
        exact ⟨ret_int (idx_yes hlt (by rw [HY.out]; exact hq) HS.out).symm, by repeat (first | assumption | exact Below.refl _ _ | (refine below_trans ?_ (by assumption)) | apply below_alloc | apply below_drewN | apply Below.drew)⟩
      | false =>
        rw [hq] at hcall
        go_wp2_with (go_at_fn g; refine hcall.mono ?_; rintro e w' ⟨rfl, hb'⟩)
        exact ⟨⟨k + 1, hlt, by go_num, by rw [any_take_succ hlt, HS.out, HY.out, hq]; rfl, by repeat (first | assumption | exact Below.refl _ _ | (refine below_trans ?_ (by assumption)) | apply below_alloc | apply below_drewN | apply Below.drew)⟩, by simp [intOf]; omega⟩
    · have HF := Lib.hid hf; clear hf
      go_wp2
      go_ret
      exact ⟨ret_int (idx_none (by have := HF.out; rwa [List.take_of_length_le (by omega)] at this)).symm, by repeat (first | assumption | exact Below.refl _ _ | (refine below_trans ?_ (by assumption)) | apply below_alloc | apply below_drewN | apply Below.drew)⟩
theorem containsFunc_int (g : Nat) (cb : Array Value) (eg : ∀ args w, (callFunc g args).run Tryz.prog w = .ok (.enter g args) w) (p : Int → Bool) (xs : List Int) (A : Option Addr) (c : Nat) (w : World) (h : RdS kInt w A c xs) (hp : Tells kInt g cb p w xs one) :
    Calls Tryz.prog 59 #[.slice A xs.length c, .func (.func g) #[] cb] w fun e w' => e = .returned (.bool (xs.any p)) ∧ Below w.heap.size w w' := by
  rw [← idx_ge]
  go_enter Tryz.func59, Tryz.ntmps59
  go_wp2_with (go_at_call 85; refine (indexFunc_int g cb eg p xs A c _ h hp).mono ?_; rintro e w' ⟨rfl, hb⟩)
  go_ret
  exact ⟨rfl, hb⟩

set_option maxHeartbeats 1000000 in
theorem indexFunc_rep (g : Nat) (cb : Array Value) (eg : ∀ args w, (callFunc g args).run Tryz.prog w = .ok (.enter g args) w) (p : SReplica → Bool) (xs : List SReplica) (A : Option Addr) (c : Nat) (w : World) (h : RdS kReplica w A c xs) (hp : Tells kReplica g cb p w xs agg) :
    Calls Tryz.prog 157 #[.slice A xs.length c, .func (.func g) #[] cb] w fun e w' => e = .returned (.int .i64 (idx p xs)) ∧ Below w.heap.size w w' := by
  have hlen : xs.length ≤ 9223372036854775807 := by have h1 := h.1; have h2 := h.2.1; unfold maxLen at h2; omega
  go_enter Tryz.func157, Tryz.ntmps157
  go_wp2
  go_loopw [8] (fun i W => ∃ k : Nat, k ≤ xs.length ∧ i = .int .i64 k ∧ (xs.take k).any p = false ∧ Below w.heap.size w W) (fun i _ => xs.length - (intOf i).toNat)
  case atStart => exact ⟨0, Nat.zero_le _, rfl, by simp, Below.refl _ _⟩
  case round =>
    obtain ⟨k, hk, rfl, hf, hb⟩ := hrel
    by_cases hlt : k < xs.length
    · have HS := Lib.hid hf; clear hf
      have hlt' : (k : Int) < (xs.length : Int) := by omega
      obtain ⟨a, cs, rfl, hl, hr⟩ := (h.below hb).at (List.getElem?_eq_getElem hlt)
      have hcall := hp k hlt wr cs hb hr
      obtain ⟨A5, c5, A7, c7, A8, c8, A9, c9, rfl, hs5, hs7, hs8, hs9⟩ := kReplica_open hr
      have f0 := hl.c0
      have f1 := hl.cS 0 rfl
      have f2 := hl.cS 1 rfl
      have f3 := hl.cS 2 rfl
      have f4 := hl.cS 3 rfl
      have f5 := hl.cS 4 rfl
      have f6 := hl.cS 5 rfl
      have f7 := hl.cS 6 rfl
      have f8 := hl.cS 7 rfl
      have f9 := hl.cS 8 rfl
      simp only [show kReplica.sz = 10 from rfl, Nat.zero_add, Nat.reduceAdd] at f0 f1 f2 f3 f4 f5 f6 f7 f8 f9
      simp only [agg] at hcall
      clear hl h hp hr
      generalize hy : xs[k] = y at hcall f0 f1 f2 f3 f4 f5 f6 f7 f8 f9
      have HY := Lib.hid hy; clear hy
      cases hq : p y with
      | true =>
        rw [hq] at hcall
        go_wp2_with (go_at_fn g; refine hcall.mono ?_; rintro e w' ⟨rfl, hb'⟩)
        go_ret
        exact ⟨ret_int (idx_yes hlt (by rw [HY.out]; exact hq) HS.out).symm, by repeat (first | assumption | exact Below.refl _ _ | (refine below_trans ?_ (by assumption)) | apply below_alloc | apply below_drewN | apply Below.drew)⟩
      | false =>
        rw [hq] at hcall
        go_wp2_with (go_at_fn g; refine hcall.mono ?_; rintro e w' ⟨rfl, hb'⟩)
        exact ⟨⟨k + 1, hlt, by go_num, by rw [any_take_succ hlt, HS.out, HY.out, hq]; rfl, by repeat (first | assumption | exact Below.refl _ _ | (refine below_trans ?_ (by assumption)) | apply below_alloc | apply below_drewN | apply Below.drew)⟩, by simp [intOf]; omega⟩
    · have HF := Lib.hid hf; clear hf
      go_wp2
      go_ret
      exact ⟨ret_int (idx_none (by have := HF.out; rwa [List.take_of_length_le (by omega)] at this)).symm, by repeat (first | assumption | exact Below.refl _ _ | (refine below_trans ?_ (by assumption)) | apply below_alloc | apply below_drewN | apply Below.drew)⟩
theorem containsFunc_rep (g : Nat) (cb : Array Value) (eg : ∀ args w, (callFunc g args).run Tryz.prog w = .ok (.enter g args) w) (p : SReplica → Bool) (xs : List SReplica) (A : Option Addr) (c : Nat) (w : World) (h : RdS kReplica w A c xs) (hp : Tells kReplica g cb p w xs agg) :
    Calls Tryz.prog 126 #[.slice A xs.length c, .func (.func g) #[] cb] w fun e w' => e = .returned (.bool (xs.any p)) ∧ Below w.heap.size w w' := by
  rw [← idx_ge]
  go_enter Tryz.func126, Tryz.ntmps126
  go_wp2_with (go_at_call 157; refine (indexFunc_rep g cb eg p xs A c _ h hp).mono ?_; rintro e w' ⟨rfl, hb⟩)
  go_ret
  exact ⟨rfl, hb⟩
end Go.Proofs.YtfblopmploohkaaGreatDoor

/- Faults of a node: what the program's functions come to. -/
set_option linter.unusedVariables false
set_option linter.unusedSimpArgs false
namespace Go.Proofs.YtfblopmploohkaaGreatDoor
open Go Go.RowKit Mk
def doerF (d : SDoer) : Int :=
  if !d.Known && (d.Last != 0 || decide (0 < d.Log.length) || d.Commit != 0) then 1 else if !wi d.Last 0 200 then 3
  else if logF d.Log != 0 then logF d.Log else if !wi d.Commit 0 d.Log.length then 3 else 0
def isPrim (n : SReplica) : Bool := n.View % n.Size == n.Id
def leadsB (n : SReplica) : Bool := n.Normal && isPrim n
def asksN (n : SReplica) : Int := if n.Normal then 0 else n.Size
def oksN (n : SReplica) : Int := if leadsB n then n.Size else 0
def repF (n : SReplica) : Int :=
  if !(wi n.Size 1 5 && wi n.Id 0 (n.Size - 1) && wi n.View 0 200 && wi n.Last 0 n.View) then 3
  else if logF n.Log != 0 then logF n.Log
  else if !wi n.Commit 0 n.Log.length then 3
  else if n.Normal && n.Last != n.View || (n.Oks.length : Int) != oksN n || (n.Asks.length : Int) != asksN n || (n.Doers.length : Int) != asksN n then 1
  else if n.Oks.any (fun k => !wi k 0 n.Log.length) then 3
  else first doerF n.Doers
def sizesB (n : SReplica) : Bool := n.Normal && n.Last != n.View || (n.Oks.length : Int) != oksN n || (n.Asks.length : Int) != asksN n || (n.Doers.length : Int) != asksN n
theorem repF_tail (n : SReplica) (h1 : wi n.Size 1 5 = true) (h2 : wi n.Id 0 (n.Size - 1) = true) (h3 : wi n.View 0 200 = true) (h4 : (!wi n.Last 0 n.View) = false) (h5 : (logF n.Log != 0) = false) (h6 : (!wi n.Commit 0 n.Log.length) = false) :
    repF n = if sizesB n then 1 else if n.Oks.any (fun k => !wi k 0 n.Log.length) then 3 else first doerF n.Doers := by
  have h4' : wi n.Last 0 n.View = true := by simpa using h4
  unfold repF sizesB
  rw [h1, h2, h3, h4', h5, h6]
  rfl
theorem wi_b {n l h : Int} (e : wi n l h = true) : l ≤ n ∧ n ≤ h := by simpa [wi] using e
theorem wi_t {n l h : Int} (a : l ≤ n) (b : n ≤ h) : wi n l h = true := by simp [wi, a, b]

theorem many_c (xs : List SEntry) (A : Option Addr) (c : Nat) (w : World) : Calls Tryz.prog 57 #[.slice A xs.length c] w fun e w' => e = .returned (.int .i64 xs.length) ∧ w = w' := by
  go_enter Tryz.func57, Tryz.ntmps57
  go_wp2
  go_ret; exact ⟨rfl, rfl⟩
theorem primary_c (v s : Int) (w : World) (h0 : 0 ≤ v) (h1 : 1 ≤ s) (h2 : v ≤ 200) : Calls Tryz.prog 84 #[.int .i64 v, .int .i64 s] w fun e w' => e = .returned (.int .i64 (v % s)) ∧ w = w' := by
  have hs : (s == 0) = false := beq_eq_false_iff_ne.2 (by omega)
  go_enter Tryz.func84, Tryz.ntmps84
  go_wp2
  go_ret; exact ⟨rfl, rfl⟩
theorem isPrimary_c (n : SReplica) (p : Addr) (w : World) (h : At kReplica w p n) (h0 : 0 ≤ n.View) (h1 : 1 ≤ n.Size) (h2 : n.View ≤ 200) :
    Calls Tryz.prog 56 #[.pointer (some p)] w fun e w' => e = .returned (.bool (isPrim n)) ∧ Below w.heap.size w w' := by
  obtain ⟨A5, c5, A7, c7, A8, c8, A9, c9, f0, f1, f2, f3, f4, f5, f6, f7, f8, f9, h⟩ := atReplica h
  clear f3 f4 f5 f6 f7 f8 f9 h
  go_enter Tryz.func56, Tryz.ntmps56
  go_wp2_with fail
  go_quiet ((go_at_call 84; exact Calls.quiet_of_same ((primary_c _ _ _ h0 h1 h2).mono fun e w' ⟨he, hw⟩ => ⟨he, hw.symm⟩)))
  go_wp2
  go_ret; exact ⟨rfl, below_drewN (Below.refl _ _) _⟩
theorem leads_c (n : SReplica) (p : Addr) (w : World) (h : At kReplica w p n) (h0 : 0 ≤ n.View) (h1 : 1 ≤ n.Size) (h2 : n.View ≤ 200) :
    Calls Tryz.prog 58 #[.pointer (some p)] w fun e w' => e = .returned (.bool (leadsB n)) ∧ Below w.heap.size w w' := by
  obtain ⟨A5, c5, A7, c7, A8, c8, A9, c9, f0, f1, f2, f3, f4, f5, f6, f7, f8, f9, hh⟩ := atReplica h
  clear f0 f1 f2 f4 f5 f6 f7 f8 f9 hh
  go_enter Tryz.func58, Tryz.ntmps58
  go_wp2_with (go_at_call 56; refine (isPrimary_c n p _ h h0 h1 h2).mono ?_; rintro e w' ⟨rfl, hb⟩)
  all_goals (go_ret; exact ⟨by simp_all [leadsB], by repeat (first | assumption | exact Below.refl _ _ | (refine below_trans ?_ (by assumption)) | apply below_alloc | apply below_drewN | apply Below.drew)⟩)
theorem logF_nil : logF [] = 0 := rfl
set_option maxHeartbeats 1000000 in
theorem doerFault_c (d : SDoer) (A : Option Addr) (c : Nat) (w : World) (h : RdS kEntry w A c d.Log) :
    Calls Tryz.prog 61 #[.agg #[.bool d.Known, .int .i64 d.Last, .slice A d.Log.length c, .int .i64 d.Commit]] w fun e w' => e = .returned (.int .i64 (doerF d)) ∧ Below w.heap.size w w' := by
  have hlen : d.Log.length ≤ 9223372036854775807 := by have h1 := h.1; have h2 := h.2.1; unfold maxLen at h2; omega
  obtain ⟨K, L, lg, C⟩ := d
  dsimp only at h hlen ⊢
  have main : ∀ (K : Bool), (K = true ∨ L = 0 ∧ lg = [] ∧ C = 0) → Calls Tryz.prog 61 #[.agg #[.bool K, .int .i64 L, .slice A lg.length c, .int .i64 C]] w fun e w' => e = .returned (.int .i64 (doerF ⟨K, L, lg, C⟩)) ∧ Below w.heap.size w w' := by
    intro K hK
    have hd : doerF ⟨K, L, lg, C⟩ = if !wi L 0 200 then 3 else if logF lg != 0 then logF lg else if !wi C 0 lg.length then 3 else 0 := by
      rcases hK with rfl | ⟨rfl, rfl, rfl⟩
      · simp [doerF]
      · cases K <;> rfl
    rw [hd]; clear hd
    generalize hr : (if !wi L 0 200 then 3 else if logF lg != 0 then logF lg else if !wi C 0 lg.length then 3 else 0 : Int) = r
    have HR := Lib.hid hr; clear hr
    have go : ∀ (cells : Array Value), cells = #[.bool K, .int .i64 L, .slice A lg.length c, .int .i64 C] → True := fun _ _ => trivial
    clear go
    rcases hK with rfl | ⟨rfl, rfl, rfl⟩
    · go_enter Tryz.func61, Tryz.ntmps61
      go_wp2_with (first | (go_at_call 19; refine (within_c _ _ _ _).mono ?_; rintro e w' ⟨rfl, rfl⟩) | (go_at_call 41; refine (logFault_c _ _ _ _ ?_).mono ?_; exact h.below (by repeat (first | assumption | exact Below.refl _ _ | (refine below_trans ?_ (by assumption)) | apply below_alloc | apply below_drewN | apply Below.drew)); rintro e w1 ⟨rfl, hb1⟩; have gs := seenDoer w ⟨true, L, lg, C⟩ 105 A c _ hb1))
      · go_ret; refine ⟨ret_int ?_, by repeat (first | assumption | exact Below.refl _ _ | (refine below_trans ?_ (by assumption)) | apply below_alloc | apply below_drewN | apply Below.drew)⟩; rw [← HR.out]; simp_all
      · go_ret; refine ⟨ret_int ?_, by repeat (first | assumption | exact Below.refl _ _ | (refine below_trans ?_ (by assumption)) | apply below_alloc | apply below_drewN | apply Below.drew)⟩; rw [← HR.out]; simp_all
      go_quiet ((first | (go_at_call 57; exact Calls.quiet_of_same ((many_c _ _ _ _).mono fun e w' ⟨he, hw⟩ => ⟨he, hw.symm⟩)) | (go_at_call 19; exact Calls.quiet_of_same ((within_c _ _ _ _).mono fun e w' ⟨he, hw⟩ => ⟨he, hw.symm⟩))))
      go_wp2
      all_goals (go_ret; refine ⟨ret_int ?_, by repeat (first | assumption | exact Below.refl _ _ | (refine below_trans ?_ (by assumption)) | apply below_alloc | apply below_drewN | apply Below.drew)⟩; rw [← HR.out]; simp_all)
    · have HR2 : Hid (r = 0) := HR.out.symm
      clear HR
      have hl0 := logF_nil
      cases K
      all_goals
        go_enter Tryz.func61, Tryz.ntmps61
        go_wp2_with (first | (go_at_call 19; refine (within_c 0 0 200 _).mono ?_; rintro e w' ⟨rfl, rfl⟩) | (go_at_call 41; refine (logFault_c [] A c _ ?_).mono ?_; exact h.below (by repeat (first | assumption | exact Below.refl _ _ | (refine below_trans ?_ (by assumption)) | apply below_alloc | apply below_drewN | apply Below.drew)); rintro e w1 ⟨rfl, hb1⟩; rw [hl0]; first | have gs := seenDoer w ⟨true, 0, [], 0⟩ 105 A c _ hb1 | have gs := seenDoer w ⟨false, 0, [], 0⟩ 105 A c _ hb1))
        go_quiet ((first | (go_at_call 57; exact Calls.quiet_of_same ((many_c [] _ _ _).mono fun e w' ⟨he, hw⟩ => ⟨he, hw.symm⟩)) | (go_at_call 19; exact Calls.quiet_of_same ((within_c _ _ _ _).mono fun e w' ⟨he, hw⟩ => ⟨he, hw.symm⟩))))
        go_wp2
        go_ret; refine ⟨ret_int ?_, by repeat (first | assumption | exact Below.refl _ _ | (refine below_trans ?_ (by assumption)) | apply below_alloc | apply below_drewN | apply Below.drew)⟩; rw [HR2.out]
  cases K with
  | true => exact main true (.inl rfl)
  | false =>
    by_cases hz : L = 0 ∧ lg = [] ∧ C = 0
    · exact main false (.inr hz)
    · clear main
      have hd : doerF ⟨false, L, lg, C⟩ = 1 := by
        by_cases h1 : L = 0 <;> by_cases h2 : lg = [] <;> by_cases h3 : C = 0 <;> simp_all [doerF, List.length_pos_iff]
      rw [hd]; clear hd
      by_cases h1 : L = 0
      · subst h1
        by_cases h2 : lg = []
        · subst h2
          have h3 : (C != 0) = true := by simpa using hz
          clear hz
          go_enter Tryz.func61, Tryz.ntmps61
          go_wp2
          go_ret; exact ⟨rfl, by repeat (first | assumption | exact Below.refl _ _ | (refine below_trans ?_ (by assumption)) | apply below_alloc | apply below_drewN | apply Below.drew)⟩
        · have h4 : 0 < lg.length := List.length_pos_iff.2 h2
          have h3 : decide (0 < lg.length) = true := by simpa using h4
          clear hz h2
          go_enter Tryz.func61, Tryz.ntmps61
          go_wp2
          go_ret; exact ⟨rfl, by repeat (first | assumption | exact Below.refl _ _ | (refine below_trans ?_ (by assumption)) | apply below_alloc | apply below_drewN | apply Below.drew)⟩
      · have h3 : (L != 0) = true := by simpa using h1
        clear hz h1
        go_enter Tryz.func61, Tryz.ntmps61
        go_wp2
        go_ret; exact ⟨rfl, by repeat (first | assumption | exact Below.refl _ _ | (refine below_trans ?_ (by assumption)) | apply below_alloc | apply below_drewN | apply Below.drew)⟩

theorem repFault1_c (x : Int) (n : SReplica) (p : Addr) (w : World) (h : At kReplica w p n) :
    Calls Tryz.prog 60 #[.int .i64 x, .pointer (some p)] w fun e w' => e = .returned (.bool (!wi x 0 n.Log.length)) ∧ Below w.heap.size w w' := by
  obtain ⟨A5, c5, A7, c7, A8, c8, A9, c9, f0, f1, f2, f3, f4, f5, f6, f7, f8, f9, hh⟩ := atReplica h
  clear f0 f1 f2 f3 f4 f6 f7 f8 f9 hh
  go_enter Tryz.func60, Tryz.ntmps60
  go_wp2_with (first | (go_at_call 57; refine (many_c _ _ _ _).mono ?_; rintro e w' ⟨rfl, rfl⟩) | (go_at_call 19; refine (within_c _ _ _ _).mono ?_; rintro e w' ⟨rfl, rfl⟩))
  go_ret; exact ⟨rfl, by repeat (first | assumption | exact Below.refl _ _ | (refine below_trans ?_ (by assumption)) | apply below_alloc | apply below_drewN | apply Below.drew)⟩
set_option maxRecDepth 100000 in
set_option maxHeartbeats 1000000 in
theorem replicaFault_c (n : SReplica) (A5 : Option Addr) (c5 : Nat) (A7 : Option Addr) (c7 : Nat) (A8 : Option Addr) (c8 : Nat) (A9 : Option Addr) (c9 : Nat) (w : World)
    (h5 : RdS kEntry w A5 c5 n.Log) (h7 : RdS kInt w A7 c7 n.Oks) (h8 : RdS kBool w A8 c8 n.Asks) (h9 : RdS kDoer w A9 c9 n.Doers) :
    Calls Tryz.prog 39 #[.agg #[.int .i64 n.Id, .int .i64 n.Size, .int .i64 n.View, .bool n.Normal, .int .i64 n.Last, .slice A5 n.Log.length c5, .int .i64 n.Commit, .slice A7 n.Oks.length c7, .slice A8 n.Asks.length c8, .slice A9 n.Doers.length c9]] w
      fun e w' => e = .returned (.int .i64 (repF n)) ∧ Below w.heap.size w w' := by
  cases h1 : wi n.Size 1 5 with
  | false =>
    have hr : repF n = 3 := by simp [repF, h1]
    rw [hr]; clear hr
    go_enter Tryz.func39, Tryz.ntmps39
    go_wp2_with (first | (go_at_call 19; refine (within_c _ _ _ _).mono ?_; rintro e w' ⟨rfl, rfl⟩))
    go_ret; exact ⟨rfl, by repeat (first | assumption | exact Below.refl _ _ | (refine below_trans ?_ (by assumption)) | apply below_alloc | apply below_drewN | apply Below.drew)⟩
  | true =>
    obtain ⟨b1, b2⟩ := wi_b h1
    have hdl : n.Doers.length ≤ 9223372036854775807 := by have h1 := h9.1; have h2 := h9.2.1; unfold maxLen at h2; omega
    go_enter Tryz.func39, Tryz.ntmps39
    go_wp2_with (first | (go_at_call 19; refine (within_c _ _ _ _).mono ?_; rintro e w' ⟨rfl, rfl⟩) | (go_at_call 41; refine (logFault_c _ _ _ _ ?_).mono ?_; exact h5.below (by repeat (first | assumption | exact Below.refl _ _ | (refine below_trans ?_ (by assumption)) | apply below_alloc | apply below_drewN | apply Below.drew)); rintro e w1 ⟨rfl, hb1⟩; have g1 := seenReplica w n 60 A5 c5 A7 c7 A8 c8 A9 c9 _ hb1))
    iterate 3 (go_ret; refine ⟨ret_int ?_, by repeat (first | assumption | exact Below.refl _ _ | (refine below_trans ?_ (by assumption)) | apply below_alloc | apply below_drewN | apply Below.drew)⟩; (try simp only [Bool.not_eq_true'] at *); simp_all [repF])
    · go_ret; refine ⟨ret_int ?_, by repeat (first | assumption | exact Below.refl _ _ | (refine below_trans ?_ (by assumption)) | apply below_alloc | apply below_drewN | apply Below.drew)⟩; simp_all [repF]
    go_quiet ((first | (go_at_call 57; exact Calls.quiet_of_same ((many_c _ _ _ _).mono fun e w' ⟨he, hw⟩ => ⟨he, hw.symm⟩)) | (go_at_call 19; exact Calls.quiet_of_same ((within_c _ _ _ _).mono fun e w' ⟨he, hw⟩ => ⟨he, hw.symm⟩))))
    go_wp2
    · go_ret; refine ⟨ret_int ?_, by repeat (first | assumption | exact Below.refl _ _ | (refine below_trans ?_ (by assumption)) | apply below_alloc | apply below_drewN | apply Below.drew)⟩; simp_all [repF]
    go_quiet (fail)
    have hv := wi_b (show wi n.View 0 200 = true by assumption)
    have i1 : InReplica w n 60 A5 c5 A7 c7 A8 c8 A9 c9 w1 := hb1
    go_upto_if 52 with fail
    go_cut [0, 5] (fun _ s5 W => s5 = .int .i64 (asksN n) ∧ InReplica w n 60 A5 c5 A7 c7 A8 c8 A9 c9 W)
    case first =>
      cases hN : n.Normal
      · have ha : asksN n = n.Size := by simp [asksN, hN]
        have hA := Lib.hid ha; clear ha
        go_wp2_with fail; go_meet; exact ⟨by rw [hA.out], i1.step (by repeat (first | assumption | exact Below.refl _ _ | (refine below_trans ?_ (by assumption)) | apply below_alloc | apply below_drewN | apply Below.drew))⟩
      · have ha : asksN n = 0 := by simp [asksN, hN]
        have hA := Lib.hid ha; clear ha
        go_wp2_with fail; go_meet; exact ⟨by rw [hA.out], i1.step (by repeat (first | assumption | exact Below.refl _ _ | (refine below_trans ?_ (by assumption)) | apply below_alloc | apply below_drewN | apply Below.drew))⟩
    case rest =>
      obtain ⟨rfl, i2⟩ := hcut
      have g2 := i2.seen
      clear i1 g1 hb1
      go_upto_if 53 with fail
      refine (leads_c n _ _ (i2.at h5 h7 h8 h9) hv.1 b1 hv.2).mono ?_
      rintro e w2 ⟨rfl, hb2⟩
      have i3 := i2.step hb2
      have g3 := i3.seen
      clear i2 g2 hb2
      go_upto_if 53 with fail
      go_cut [4] (fun s4 W => s4 = .int .i64 (oksN n) ∧ InReplica w n 60 A5 c5 A7 c7 A8 c8 A9 c9 W)
      case first =>
        cases hN : leadsB n
        · have ha : oksN n = 0 := by simp [oksN, hN]
          have hA := Lib.hid ha; clear ha
          go_wp2_with fail; go_meet; exact ⟨by rw [hA.out], i3⟩
        · have ha : oksN n = n.Size := by simp [oksN, hN]
          have hA := Lib.hid ha; clear ha
          go_wp2_with fail; go_meet; exact ⟨by rw [hA.out], i3⟩
      case rest =>
        obtain ⟨rfl, i4⟩ := hcut
        have g4 := i4.seen
        clear i3 g3
        go_upto_block 0 with fail
        go_cut [0] (fun _ W => Hid (repF n = first doerF n.Doers) ∧ InReplica w n 60 A5 c5 A7 c7 A8 c8 A9 c9 W)
        case first =>
          have hF := repF_tail n h1 (by assumption) (by assumption) (by assumption) (by assumption) (by assumption)
          cases q1 : sizesB n
          · rw [q1, if_neg (by simp)] at hF
            have H2 := Lib.hid hF
            unfold sizesB at q1
            simp only [Bool.or_eq_false_iff, Bool.and_eq_false_iff] at q1
            obtain ⟨⟨⟨qa, qb⟩, qc⟩, qd⟩ := q1
            clear hF
            rcases qa with qa | qa
            all_goals
              go_wp2_with fail
            all_goals
              refine (containsFunc_int 60 #[.pointer (some ⟨w.heap.size, 0, none⟩)] (Go.Proofs.enters_of Tryz.func60 (by kernel_rfl) rfl) (fun k => !wi k 0 n.Log.length) n.Oks A7 c7 _ ?_ ?_).mono ?_
              exact h7.below i4.below
              · intro k hk W cs hW hr
                obtain rfl := hr
                exact repFault1_c _ n _ _ ((i4.step hW).at h5 h7 h8 h9)
              rintro e w3 ⟨rfl, hb3⟩
              have i5 := i4.step hb3
              clear g4
              generalize hy : (n.Oks.any (fun k => !wi k 0 n.Log.length)) = y at H2
              cases y
              · go_wp2_with fail
                go_meet
                exact ⟨by rw [H2.out]; rfl, i5⟩
              · go_wp2_with fail
                go_ret
                exact ⟨ret_int (by rw [H2.out]; rfl), i5.below⟩
          · rw [q1, if_pos rfl] at hF
            have H2 := Lib.hid hF
            unfold sizesB at q1
            clear hF
            simp only [Bool.or_eq_true, Bool.and_eq_true] at q1
            rcases q1 with ((⟨qa, qb⟩ | qb) | qb) | qb
            all_goals
              go_wp2_with fail
              all_goals (go_ret; exact ⟨ret_int (by rw [H2.out]), i4.below⟩)
        case rest =>
          obtain ⟨HR, i5⟩ := hcut
          clear i4 g4
          have g5 := i5.seen
          have hB3 := i5.below
          go_wp2_with fail
          clear g5 i5 h5 h7 h8
          go_loopw [95] (fun i W => ∃ k : Nat, k ≤ n.Doers.length ∧ i = .int .i64 k ∧ first doerF (n.Doers.drop k) = first doerF n.Doers ∧ Below w.heap.size w W) (fun i _ => n.Doers.length - (intOf i).toNat)
          case atStart => exact ⟨0, Nat.zero_le _, rfl, rfl, hB3⟩
          case round =>
            obtain ⟨k, hk, rfl, hf, hb⟩ := hrel
            by_cases hlt : k < n.Doers.length
            · have hs := first_drop doerF n.Doers k hlt
              have HS := Lib.hid (hs.symm.trans hf); clear hs hf
              obtain ⟨a, cs, rfl, hl, hr⟩ := (h9.below hb).at (List.getElem?_eq_getElem hlt)
              obtain ⟨D2, e2, rfl, hd2⟩ := kDoer_open hr
              have f0 := hl.c0
              have f1 := hl.cS 0 rfl
              have f2 := hl.cS 1 rfl
              have f3 := hl.cS 2 rfl
              simp only [show kDoer.sz = 4 from rfl, Nat.zero_add, Nat.reduceAdd] at f0 f1 f2 f3
              clear hl hr h9
              go_wp2_with (go_at_call 61; refine (doerFault_c n.Doers[k] _ _ _ ?_).mono ?_; exact hd2.below (by repeat (first | assumption | exact Below.refl _ _ | (refine below_trans ?_ (by assumption)) | apply below_alloc | apply below_drewN | apply Below.drew)); rintro e w' ⟨rfl, hb5⟩)
              · go_ret
                exact ⟨ret_int (by rw [HR.out, ← HS.out, if_pos (by assumption)]), by repeat (first | assumption | exact Below.refl _ _ | (refine below_trans ?_ (by assumption)) | apply below_alloc | apply below_drewN | apply Below.drew)⟩
              · exact ⟨⟨k + 1, hlt, by go_num, by rw [← HS.out, if_neg (by simp_all)], by repeat (first | assumption | exact Below.refl _ _ | (refine below_trans ?_ (by assumption)) | apply below_alloc | apply below_drewN | apply Below.drew)⟩, by simp [intOf]; omega⟩
            · have HF := Lib.hid hf; clear hf
              go_wp2
              go_ret
              exact ⟨ret_int (by rw [HR.out, ← HF.out, List.drop_of_length_le (by omega)]; rfl), by repeat (first | assumption | exact Below.refl _ _ | (refine below_trans ?_ (by assumption)) | apply below_alloc | apply below_drewN | apply Below.drew)⟩
end Go.Proofs.YtfblopmploohkaaGreatDoor

/- Faults of a mail: what the program's function comes to (written by gA4.py, own work). -/
set_option linter.unusedVariables false
set_option linter.unusedSimpArgs false
namespace Go.Proofs.YtfblopmploohkaaGreatDoor
open Go Go.RowKit Mk
def numB (n : SReplica) (m : SMail) : Bool :=
  wi m.From 0 (n.Size - 1) && m.From != n.Id && wi m.View 0 200 && (!(m.Kind == 1 || m.Kind == 2) || wi m.At 0 40) && (!(m.Kind == 4) || wi m.Last 0 m.View) && (!(m.Kind == 1) || wi m.Commit 0 40)
def bareB (m : SMail) : Bool :=
  (m.Kind == 1 || m.Kind == 2 || m.At == 0) && (m.Kind == 1 || m.Kind == 4 || m.Kind == 5 || m.Commit == 0) && (m.Kind == 4 || m.Last == 0) && (m.Kind == 4 || m.Kind == 5 || !decide (0 < m.Log.length)) && (m.Kind == 1 || !m.Has) && (m.Has || m.Entry == zEntry)
def mailT (n : SReplica) (m : SMail) : Int :=
  if !wi m.Kind 1 6 || m.To != n.Id then 1 else if !numB n m then 3
  else if (m.Kind == 4 || m.Kind == 5) && logF m.Log != 0 then logF m.Log
  else if (m.Kind == 4 || m.Kind == 5) && !wi m.Commit 0 m.Log.length then 3
  else if m.Kind == 1 && m.Has && entryF m.Entry != 0 then entryF m.Entry
  else if !bareB m then 1 else 0
def mailF (n : SReplica) (m : SMail) : Int := if repF n != 0 then repF n else mailT n m
theorem hasOf_1 (w : World) : Calls Tryz.prog 62 #[.int .i64 1] w fun e w' => e = .returned (.agg #[.bool true, .bool true, .bool false, .bool false, .bool true]) ∧ Below w.heap.size w w' := by
  go_enter Tryz.func62, Tryz.ntmps62
  go_wp2
  exact bodyPost_ret (v := .agg #[.bool true, .bool true, .bool false, .bool false, .bool true]) (by simp [results, Tryz.results62, go_sem]) rfl ⟨rfl, by repeat (first | exact Below.refl _ _ | apply below_alloc | (refine below_set ?_ (Nat.le_refl _) _))⟩
theorem hasOf_2 (w : World) : Calls Tryz.prog 62 #[.int .i64 2] w fun e w' => e = .returned (.agg #[.bool true, .bool false, .bool false, .bool false, .bool false]) ∧ Below w.heap.size w w' := by
  go_enter Tryz.func62, Tryz.ntmps62
  go_wp2
  exact bodyPost_ret (v := .agg #[.bool true, .bool false, .bool false, .bool false, .bool false]) (by simp [results, Tryz.results62, go_sem]) rfl ⟨rfl, by repeat (first | exact Below.refl _ _ | apply below_alloc | (refine below_set ?_ (Nat.le_refl _) _))⟩
theorem hasOf_3 (w : World) : Calls Tryz.prog 62 #[.int .i64 3] w fun e w' => e = .returned (.agg #[.bool false, .bool false, .bool false, .bool false, .bool false]) ∧ Below w.heap.size w w' := by
  go_enter Tryz.func62, Tryz.ntmps62
  go_wp2
  exact bodyPost_ret (v := .agg #[.bool false, .bool false, .bool false, .bool false, .bool false]) (by simp [results, Tryz.results62, go_sem]) rfl ⟨rfl, by repeat (first | exact Below.refl _ _ | apply below_alloc | (refine below_set ?_ (Nat.le_refl _) _))⟩
theorem hasOf_4 (w : World) : Calls Tryz.prog 62 #[.int .i64 4] w fun e w' => e = .returned (.agg #[.bool false, .bool true, .bool true, .bool true, .bool false]) ∧ Below w.heap.size w w' := by
  go_enter Tryz.func62, Tryz.ntmps62
  go_wp2
  exact bodyPost_ret (v := .agg #[.bool false, .bool true, .bool true, .bool true, .bool false]) (by simp [results, Tryz.results62, go_sem]) rfl ⟨rfl, by repeat (first | exact Below.refl _ _ | apply below_alloc | (refine below_set ?_ (Nat.le_refl _) _))⟩
theorem hasOf_5 (w : World) : Calls Tryz.prog 62 #[.int .i64 5] w fun e w' => e = .returned (.agg #[.bool false, .bool true, .bool false, .bool true, .bool false]) ∧ Below w.heap.size w w' := by
  go_enter Tryz.func62, Tryz.ntmps62
  go_wp2
  exact bodyPost_ret (v := .agg #[.bool false, .bool true, .bool false, .bool true, .bool false]) (by simp [results, Tryz.results62, go_sem]) rfl ⟨rfl, by repeat (first | exact Below.refl _ _ | apply below_alloc | (refine below_set ?_ (Nat.le_refl _) _))⟩
theorem hasOf_6 (w : World) : Calls Tryz.prog 62 #[.int .i64 6] w fun e w' => e = .returned (.agg #[.bool false, .bool false, .bool false, .bool false, .bool false]) ∧ Below w.heap.size w w' := by
  go_enter Tryz.func62, Tryz.ntmps62
  go_wp2
  exact bodyPost_ret (v := .agg #[.bool false, .bool false, .bool false, .bool false, .bool false]) (by simp [results, Tryz.results62, go_sem]) rfl ⟨rfl, by repeat (first | exact Below.refl _ _ | apply below_alloc | (refine below_set ?_ (Nat.le_refl _) _))⟩
end Go.Proofs.YtfblopmploohkaaGreatDoor

/- Faults of a mail: what the program's MailFault comes to (written by gA5.py, own work). -/
set_option linter.unusedVariables false
set_option linter.unusedSimpArgs false
namespace Go.Proofs.YtfblopmploohkaaGreatDoor
open Go Go.RowKit Mk
theorem entry_beq (x : SEntry) : (x == zEntry) = (x.Client == 0 && x.Seq == 0 && x.Op.Kind == 0 && x.Op.Vol == 0 && x.Op.At == 0 && x.Op.Value == 0) := by
  obtain ⟨a, b, ⟨c, d, e, f⟩⟩ := x
  rw [Bool.eq_iff_iff]
  simp [zEntry, zOp, and_assoc]
theorem repF_size {n : SReplica} (h : (repF n != 0) = false) : wi n.Size 1 5 = true := by
  cases h1 : wi n.Size 1 5 with
  | true => rfl
  | false => simp [repF, h1] at h

set_option maxRecDepth 100000 in
set_option maxHeartbeats 2000000 in
theorem mailFault_other (n : SReplica) (m : SMail) (A5 : Option Addr) (c5 : Nat) (A7 : Option Addr) (c7 : Nat) (A8 : Option Addr) (c8 : Nat) (A9 : Option Addr) (c9 : Nat) (B : Option Addr) (d : Nat) (w : World) (h5 : RdS kEntry w A5 c5 n.Log) (h7 : RdS kInt w A7 c7 n.Oks) (h8 : RdS kBool w A8 c8 n.Asks) (h9 : RdS kDoer w A9 c9 n.Doers) (hB : RdS kEntry w B d m.Log) (hk : wi m.Kind 1 6 = false) :
    Calls Tryz.prog 40 #[.agg #[.int .i64 n.Id, .int .i64 n.Size, .int .i64 n.View, .bool n.Normal, .int .i64 n.Last, .slice A5 n.Log.length c5, .int .i64 n.Commit, .slice A7 n.Oks.length c7, .slice A8 n.Asks.length c8, .slice A9 n.Doers.length c9], .agg #[.int .i64 m.Kind, .int .i64 m.From, .int .i64 m.To, .int .i64 m.View, .int .i64 m.At, .bool m.Has, .int .i64 m.Entry.Client, .int .i64 m.Entry.Seq, .int .i64 m.Entry.Op.Kind, .int .i64 m.Entry.Op.Vol, .int .i64 m.Entry.Op.At, .int .i64 m.Entry.Op.Value, .int .i64 m.Last, .slice B m.Log.length d, .int .i64 m.Commit]] w fun e w' => e = .returned (.int .i64 (mailF n m)) ∧ Below w.heap.size w w' := by
  have hlen : m.Log.length ≤ 9223372036854775807 := by have h1 := hB.1; have h2 := hB.2.1; unfold maxLen at h2; omega
  cases hq : (repF n != 0) with
  | true =>
    have hF : mailF n m = repF n := by unfold mailF; rw [if_pos hq]
    have HF := Lib.hid hF; clear hF
    go_enter Tryz.func40, Tryz.ntmps40
    go_wp2_with (go_at_call 39; refine (replicaFault_c n A5 c5 A7 c7 A8 c8 A9 c9 _ ?_ ?_ ?_ ?_).mono ?_; exact h5.below (by repeat (first | assumption | exact Below.refl _ _ | (refine below_trans ?_ (by assumption)) | apply below_alloc | apply below_drewN | apply Below.drew)); exact h7.below (by repeat (first | assumption | exact Below.refl _ _ | (refine below_trans ?_ (by assumption)) | apply below_alloc | apply below_drewN | apply Below.drew)); exact h8.below (by repeat (first | assumption | exact Below.refl _ _ | (refine below_trans ?_ (by assumption)) | apply below_alloc | apply below_drewN | apply Below.drew)); exact h9.below (by repeat (first | assumption | exact Below.refl _ _ | (refine below_trans ?_ (by assumption)) | apply below_alloc | apply below_drewN | apply Below.drew)); rintro e w1 ⟨rfl, hb1⟩)
    go_ret
    exact ⟨ret_int HF.out.symm, by repeat (first | assumption | exact Below.refl _ _ | (refine below_trans ?_ (by assumption)) | apply below_alloc | apply below_drewN | apply Below.drew)⟩
  | false =>
    have hF : mailF n m = mailT n m := by unfold mailF; rw [if_neg (by rw [hq]; simp)]
    obtain ⟨b1, b2⟩ := wi_b (repF_size hq)
    have hT : mailT n m = 1 := by simp [mailT, hk]
    rw [hT] at hF
    have HF := Lib.hid hF; clear hF
    go_enter Tryz.func40, Tryz.ntmps40
    go_wp2_with (first | (go_at_call 39; refine (replicaFault_c n A5 c5 A7 c7 A8 c8 A9 c9 _ ?_ ?_ ?_ ?_).mono ?_; exact h5.below (by repeat (first | assumption | exact Below.refl _ _ | (refine below_trans ?_ (by assumption)) | apply below_alloc | apply below_drewN | apply Below.drew)); exact h7.below (by repeat (first | assumption | exact Below.refl _ _ | (refine below_trans ?_ (by assumption)) | apply below_alloc | apply below_drewN | apply Below.drew)); exact h8.below (by repeat (first | assumption | exact Below.refl _ _ | (refine below_trans ?_ (by assumption)) | apply below_alloc | apply below_drewN | apply Below.drew)); exact h9.below (by repeat (first | assumption | exact Below.refl _ _ | (refine below_trans ?_ (by assumption)) | apply below_alloc | apply below_drewN | apply Below.drew)); rintro e w1 ⟨rfl, hb1⟩; have iR : InReplica w n 60 A5 c5 A7 c7 A8 c8 A9 c9 w1 := (by unfold InReplica; repeat (first | assumption | exact Below.refl _ _ | (refine below_trans ?_ (by assumption)) | apply below_alloc | apply below_drewN | apply Below.drew)); have iM : InMail (w.alloc _) m 75 B d w1 := hb1; have g1 := iR.seen; have k1 := iM.seen; simp at k1) | (go_at_call 19; refine (within_c _ _ _ _).mono ?_; rintro e w' ⟨rfl, rfl⟩))
    go_ret
    exact ⟨ret_int HF.out.symm, by repeat (first | assumption | exact Below.refl _ _ | (refine below_trans ?_ (by assumption)) | apply below_alloc | apply below_drewN | apply Below.drew)⟩

set_option maxRecDepth 100000 in
set_option maxHeartbeats 2000000 in
theorem mailFault_1 (n : SReplica) (m : SMail) (A5 : Option Addr) (c5 : Nat) (A7 : Option Addr) (c7 : Nat) (A8 : Option Addr) (c8 : Nat) (A9 : Option Addr) (c9 : Nat) (B : Option Addr) (d : Nat) (w : World) (h5 : RdS kEntry w A5 c5 n.Log) (h7 : RdS kInt w A7 c7 n.Oks) (h8 : RdS kBool w A8 c8 n.Asks) (h9 : RdS kDoer w A9 c9 n.Doers) (hB : RdS kEntry w B d m.Log)  :
    Calls Tryz.prog 40 #[.agg #[.int .i64 n.Id, .int .i64 n.Size, .int .i64 n.View, .bool n.Normal, .int .i64 n.Last, .slice A5 n.Log.length c5, .int .i64 n.Commit, .slice A7 n.Oks.length c7, .slice A8 n.Asks.length c8, .slice A9 n.Doers.length c9], .agg #[.int .i64 1, .int .i64 m.From, .int .i64 m.To, .int .i64 m.View, .int .i64 m.At, .bool m.Has, .int .i64 m.Entry.Client, .int .i64 m.Entry.Seq, .int .i64 m.Entry.Op.Kind, .int .i64 m.Entry.Op.Vol, .int .i64 m.Entry.Op.At, .int .i64 m.Entry.Op.Value, .int .i64 m.Last, .slice B m.Log.length d, .int .i64 m.Commit]] w fun e w' => e = .returned (.int .i64 (mailF n { m with Kind := 1 })) ∧ Below w.heap.size w w' := by
  have hlen : m.Log.length ≤ 9223372036854775807 := by have h1 := hB.1; have h2 := hB.2.1; unfold maxLen at h2; omega
  cases hq : (repF n != 0) with
  | true =>
    have hF : mailF n { m with Kind := 1 } = repF n := by unfold mailF; rw [if_pos hq]
    have HF := Lib.hid hF; clear hF
    go_enter Tryz.func40, Tryz.ntmps40
    go_wp2_with (go_at_call 39; refine (replicaFault_c n A5 c5 A7 c7 A8 c8 A9 c9 _ ?_ ?_ ?_ ?_).mono ?_; exact h5.below (by repeat (first | assumption | exact Below.refl _ _ | (refine below_trans ?_ (by assumption)) | apply below_alloc | apply below_drewN | apply Below.drew)); exact h7.below (by repeat (first | assumption | exact Below.refl _ _ | (refine below_trans ?_ (by assumption)) | apply below_alloc | apply below_drewN | apply Below.drew)); exact h8.below (by repeat (first | assumption | exact Below.refl _ _ | (refine below_trans ?_ (by assumption)) | apply below_alloc | apply below_drewN | apply Below.drew)); exact h9.below (by repeat (first | assumption | exact Below.refl _ _ | (refine below_trans ?_ (by assumption)) | apply below_alloc | apply below_drewN | apply Below.drew)); rintro e w1 ⟨rfl, hb1⟩)
    go_ret
    exact ⟨ret_int HF.out.symm, by repeat (first | assumption | exact Below.refl _ _ | (refine below_trans ?_ (by assumption)) | apply below_alloc | apply below_drewN | apply Below.drew)⟩
  | false =>
    have hF : mailF n { m with Kind := 1 } = mailT n { m with Kind := 1 } := by unfold mailF; rw [if_neg (by rw [hq]; simp)]
    obtain ⟨b1, b2⟩ := wi_b (repF_size hq)
    rw [hF]; clear hF
    have hk : wi 1 1 6 = true := rfl
    go_enter Tryz.func40, Tryz.ntmps40
    go_wp2_with (first | (go_at_call 39; refine (replicaFault_c n A5 c5 A7 c7 A8 c8 A9 c9 _ ?_ ?_ ?_ ?_).mono ?_; exact h5.below (by repeat (first | assumption | exact Below.refl _ _ | (refine below_trans ?_ (by assumption)) | apply below_alloc | apply below_drewN | apply Below.drew)); exact h7.below (by repeat (first | assumption | exact Below.refl _ _ | (refine below_trans ?_ (by assumption)) | apply below_alloc | apply below_drewN | apply Below.drew)); exact h8.below (by repeat (first | assumption | exact Below.refl _ _ | (refine below_trans ?_ (by assumption)) | apply below_alloc | apply below_drewN | apply Below.drew)); exact h9.below (by repeat (first | assumption | exact Below.refl _ _ | (refine below_trans ?_ (by assumption)) | apply below_alloc | apply below_drewN | apply Below.drew)); rintro e w1 ⟨rfl, hb1⟩; have iR : InReplica w n 60 A5 c5 A7 c7 A8 c8 A9 c9 w1 := (by unfold InReplica; repeat (first | assumption | exact Below.refl _ _ | (refine below_trans ?_ (by assumption)) | apply below_alloc | apply below_drewN | apply Below.drew)); have iM : InMail (w.alloc _) { m with Kind := 1 } 75 B d w1 := hb1; have g1 := iR.seen; have k1 := iM.seen; simp at k1) | (go_at_call 19; refine (within_c _ _ _ _).mono ?_; rintro e w' ⟨rfl, rfl⟩) | (go_at_call 62; refine (hasOf_1 _).mono ?_; rintro e w2 ⟨rfl, hb2⟩; have g2 := (iR.step hb2).seen; have k2 := (iM.step hb2).seen; simp at k2; have z2 : w.heap.size + 1 < w2.heap.size := (by have h := (iM.step hb2).size; simp at h; omega); have y2 : w.heap.size < w2.heap.size := (by omega); clear g1 k1) | (go_at_call 63; refine (entryFault_c m.Entry _).mono ?_; rintro e w4 ⟨rfl, hb4⟩; have g4 := seenReplica w n 60 A5 c5 A7 c7 A8 c8 A9 c9 w4 (by repeat (first | assumption | exact Below.refl _ _ | (refine below_trans ?_ (by assumption)) | apply below_alloc | apply below_drewN | apply Below.drew)); have k4 := seenMail (w.alloc _) { m with Kind := 1 } 75 B d w4 (by repeat (first | assumption | exact Below.refl _ _ | (refine below_trans ?_ (by assumption)) | apply below_alloc | apply below_drewN | apply Below.drew)); simp at k4; have l4 := ((lies_alloc w2 #[.bool true, .bool true, .bool false, .bool false, .bool true] 108).below (by repeat (first | assumption | exact Below.refl _ _ | (refine below_trans ?_ (by assumption)) | apply below_alloc | apply below_drewN | apply Below.drew)) : Lies w4 _ _); have l40 := l4.c0; have l41 := l4.cS 0 rfl; have l42 := l4.cS 1 rfl; have l43 := l4.cS 2 rfl; have l44 := l4.cS 3 rfl; simp only [Nat.zero_add, Nat.reduceAdd] at l41 l42 l43 l44))
    all_goals (go_ret; refine ⟨ret_int ?_, by repeat (first | assumption | exact Below.refl _ _ | (refine below_trans ?_ (by assumption)) | apply below_alloc | apply below_drewN | apply Below.drew)⟩; go_light; simp_all [mailT, numB, bareB, entry_beq])

set_option maxRecDepth 100000 in
set_option maxHeartbeats 2000000 in
theorem mailFault_2 (n : SReplica) (m : SMail) (A5 : Option Addr) (c5 : Nat) (A7 : Option Addr) (c7 : Nat) (A8 : Option Addr) (c8 : Nat) (A9 : Option Addr) (c9 : Nat) (B : Option Addr) (d : Nat) (w : World) (h5 : RdS kEntry w A5 c5 n.Log) (h7 : RdS kInt w A7 c7 n.Oks) (h8 : RdS kBool w A8 c8 n.Asks) (h9 : RdS kDoer w A9 c9 n.Doers) (hB : RdS kEntry w B d m.Log)  :
    Calls Tryz.prog 40 #[.agg #[.int .i64 n.Id, .int .i64 n.Size, .int .i64 n.View, .bool n.Normal, .int .i64 n.Last, .slice A5 n.Log.length c5, .int .i64 n.Commit, .slice A7 n.Oks.length c7, .slice A8 n.Asks.length c8, .slice A9 n.Doers.length c9], .agg #[.int .i64 2, .int .i64 m.From, .int .i64 m.To, .int .i64 m.View, .int .i64 m.At, .bool m.Has, .int .i64 m.Entry.Client, .int .i64 m.Entry.Seq, .int .i64 m.Entry.Op.Kind, .int .i64 m.Entry.Op.Vol, .int .i64 m.Entry.Op.At, .int .i64 m.Entry.Op.Value, .int .i64 m.Last, .slice B m.Log.length d, .int .i64 m.Commit]] w fun e w' => e = .returned (.int .i64 (mailF n { m with Kind := 2 })) ∧ Below w.heap.size w w' := by
  have hlen : m.Log.length ≤ 9223372036854775807 := by have h1 := hB.1; have h2 := hB.2.1; unfold maxLen at h2; omega
  cases hq : (repF n != 0) with
  | true =>
    have hF : mailF n { m with Kind := 2 } = repF n := by unfold mailF; rw [if_pos hq]
    have HF := Lib.hid hF; clear hF
    go_enter Tryz.func40, Tryz.ntmps40
    go_wp2_with (go_at_call 39; refine (replicaFault_c n A5 c5 A7 c7 A8 c8 A9 c9 _ ?_ ?_ ?_ ?_).mono ?_; exact h5.below (by repeat (first | assumption | exact Below.refl _ _ | (refine below_trans ?_ (by assumption)) | apply below_alloc | apply below_drewN | apply Below.drew)); exact h7.below (by repeat (first | assumption | exact Below.refl _ _ | (refine below_trans ?_ (by assumption)) | apply below_alloc | apply below_drewN | apply Below.drew)); exact h8.below (by repeat (first | assumption | exact Below.refl _ _ | (refine below_trans ?_ (by assumption)) | apply below_alloc | apply below_drewN | apply Below.drew)); exact h9.below (by repeat (first | assumption | exact Below.refl _ _ | (refine below_trans ?_ (by assumption)) | apply below_alloc | apply below_drewN | apply Below.drew)); rintro e w1 ⟨rfl, hb1⟩)
    go_ret
    exact ⟨ret_int HF.out.symm, by repeat (first | assumption | exact Below.refl _ _ | (refine below_trans ?_ (by assumption)) | apply below_alloc | apply below_drewN | apply Below.drew)⟩
  | false =>
    have hF : mailF n { m with Kind := 2 } = mailT n { m with Kind := 2 } := by unfold mailF; rw [if_neg (by rw [hq]; simp)]
    obtain ⟨b1, b2⟩ := wi_b (repF_size hq)
    rw [hF]; clear hF
    have hk : wi 2 1 6 = true := rfl
    go_enter Tryz.func40, Tryz.ntmps40
    go_wp2_with (first | (go_at_call 39; refine (replicaFault_c n A5 c5 A7 c7 A8 c8 A9 c9 _ ?_ ?_ ?_ ?_).mono ?_; exact h5.below (by repeat (first | assumption | exact Below.refl _ _ | (refine below_trans ?_ (by assumption)) | apply below_alloc | apply below_drewN | apply Below.drew)); exact h7.below (by repeat (first | assumption | exact Below.refl _ _ | (refine below_trans ?_ (by assumption)) | apply below_alloc | apply below_drewN | apply Below.drew)); exact h8.below (by repeat (first | assumption | exact Below.refl _ _ | (refine below_trans ?_ (by assumption)) | apply below_alloc | apply below_drewN | apply Below.drew)); exact h9.below (by repeat (first | assumption | exact Below.refl _ _ | (refine below_trans ?_ (by assumption)) | apply below_alloc | apply below_drewN | apply Below.drew)); rintro e w1 ⟨rfl, hb1⟩; have iR : InReplica w n 60 A5 c5 A7 c7 A8 c8 A9 c9 w1 := (by unfold InReplica; repeat (first | assumption | exact Below.refl _ _ | (refine below_trans ?_ (by assumption)) | apply below_alloc | apply below_drewN | apply Below.drew)); have iM : InMail (w.alloc _) { m with Kind := 2 } 75 B d w1 := hb1; have g1 := iR.seen; have k1 := iM.seen; simp at k1) | (go_at_call 19; refine (within_c _ _ _ _).mono ?_; rintro e w' ⟨rfl, rfl⟩) | (go_at_call 62; refine (hasOf_2 _).mono ?_; rintro e w2 ⟨rfl, hb2⟩; have g2 := (iR.step hb2).seen; have k2 := (iM.step hb2).seen; simp at k2; have z2 : w.heap.size + 1 < w2.heap.size := (by have h := (iM.step hb2).size; simp at h; omega); have y2 : w.heap.size < w2.heap.size := (by omega); clear g1 k1) | (go_at_call 63; refine (entryFault_c m.Entry _).mono ?_; rintro e w4 ⟨rfl, hb4⟩; have g4 := seenReplica w n 60 A5 c5 A7 c7 A8 c8 A9 c9 w4 (by repeat (first | assumption | exact Below.refl _ _ | (refine below_trans ?_ (by assumption)) | apply below_alloc | apply below_drewN | apply Below.drew)); have k4 := seenMail (w.alloc _) { m with Kind := 2 } 75 B d w4 (by repeat (first | assumption | exact Below.refl _ _ | (refine below_trans ?_ (by assumption)) | apply below_alloc | apply below_drewN | apply Below.drew)); simp at k4; have l4 := ((lies_alloc w2 #[.bool true, .bool false, .bool false, .bool false, .bool false] 108).below (by repeat (first | assumption | exact Below.refl _ _ | (refine below_trans ?_ (by assumption)) | apply below_alloc | apply below_drewN | apply Below.drew)) : Lies w4 _ _); have l40 := l4.c0; have l41 := l4.cS 0 rfl; have l42 := l4.cS 1 rfl; have l43 := l4.cS 2 rfl; have l44 := l4.cS 3 rfl; simp only [Nat.zero_add, Nat.reduceAdd] at l41 l42 l43 l44))
    all_goals (go_ret; refine ⟨ret_int ?_, by repeat (first | assumption | exact Below.refl _ _ | (refine below_trans ?_ (by assumption)) | apply below_alloc | apply below_drewN | apply Below.drew)⟩; go_light; simp_all [mailT, numB, bareB, entry_beq])

set_option maxRecDepth 100000 in
set_option maxHeartbeats 2000000 in
theorem mailFault_3 (n : SReplica) (m : SMail) (A5 : Option Addr) (c5 : Nat) (A7 : Option Addr) (c7 : Nat) (A8 : Option Addr) (c8 : Nat) (A9 : Option Addr) (c9 : Nat) (B : Option Addr) (d : Nat) (w : World) (h5 : RdS kEntry w A5 c5 n.Log) (h7 : RdS kInt w A7 c7 n.Oks) (h8 : RdS kBool w A8 c8 n.Asks) (h9 : RdS kDoer w A9 c9 n.Doers) (hB : RdS kEntry w B d m.Log)  :
    Calls Tryz.prog 40 #[.agg #[.int .i64 n.Id, .int .i64 n.Size, .int .i64 n.View, .bool n.Normal, .int .i64 n.Last, .slice A5 n.Log.length c5, .int .i64 n.Commit, .slice A7 n.Oks.length c7, .slice A8 n.Asks.length c8, .slice A9 n.Doers.length c9], .agg #[.int .i64 3, .int .i64 m.From, .int .i64 m.To, .int .i64 m.View, .int .i64 m.At, .bool m.Has, .int .i64 m.Entry.Client, .int .i64 m.Entry.Seq, .int .i64 m.Entry.Op.Kind, .int .i64 m.Entry.Op.Vol, .int .i64 m.Entry.Op.At, .int .i64 m.Entry.Op.Value, .int .i64 m.Last, .slice B m.Log.length d, .int .i64 m.Commit]] w fun e w' => e = .returned (.int .i64 (mailF n { m with Kind := 3 })) ∧ Below w.heap.size w w' := by
  have hlen : m.Log.length ≤ 9223372036854775807 := by have h1 := hB.1; have h2 := hB.2.1; unfold maxLen at h2; omega
  cases hq : (repF n != 0) with
  | true =>
    have hF : mailF n { m with Kind := 3 } = repF n := by unfold mailF; rw [if_pos hq]
    have HF := Lib.hid hF; clear hF
    go_enter Tryz.func40, Tryz.ntmps40
    go_wp2_with (go_at_call 39; refine (replicaFault_c n A5 c5 A7 c7 A8 c8 A9 c9 _ ?_ ?_ ?_ ?_).mono ?_; exact h5.below (by repeat (first | assumption | exact Below.refl _ _ | (refine below_trans ?_ (by assumption)) | apply below_alloc | apply below_drewN | apply Below.drew)); exact h7.below (by repeat (first | assumption | exact Below.refl _ _ | (refine below_trans ?_ (by assumption)) | apply below_alloc | apply below_drewN | apply Below.drew)); exact h8.below (by repeat (first | assumption | exact Below.refl _ _ | (refine below_trans ?_ (by assumption)) | apply below_alloc | apply below_drewN | apply Below.drew)); exact h9.below (by repeat (first | assumption | exact Below.refl _ _ | (refine below_trans ?_ (by assumption)) | apply below_alloc | apply below_drewN | apply Below.drew)); rintro e w1 ⟨rfl, hb1⟩)
    go_ret
    exact ⟨ret_int HF.out.symm, by repeat (first | assumption | exact Below.refl _ _ | (refine below_trans ?_ (by assumption)) | apply below_alloc | apply below_drewN | apply Below.drew)⟩
  | false =>
    have hF : mailF n { m with Kind := 3 } = mailT n { m with Kind := 3 } := by unfold mailF; rw [if_neg (by rw [hq]; simp)]
    obtain ⟨b1, b2⟩ := wi_b (repF_size hq)
    rw [hF]; clear hF
    have hk : wi 3 1 6 = true := rfl
    go_enter Tryz.func40, Tryz.ntmps40
    go_wp2_with (first | (go_at_call 39; refine (replicaFault_c n A5 c5 A7 c7 A8 c8 A9 c9 _ ?_ ?_ ?_ ?_).mono ?_; exact h5.below (by repeat (first | assumption | exact Below.refl _ _ | (refine below_trans ?_ (by assumption)) | apply below_alloc | apply below_drewN | apply Below.drew)); exact h7.below (by repeat (first | assumption | exact Below.refl _ _ | (refine below_trans ?_ (by assumption)) | apply below_alloc | apply below_drewN | apply Below.drew)); exact h8.below (by repeat (first | assumption | exact Below.refl _ _ | (refine below_trans ?_ (by assumption)) | apply below_alloc | apply below_drewN | apply Below.drew)); exact h9.below (by repeat (first | assumption | exact Below.refl _ _ | (refine below_trans ?_ (by assumption)) | apply below_alloc | apply below_drewN | apply Below.drew)); rintro e w1 ⟨rfl, hb1⟩; have iR : InReplica w n 60 A5 c5 A7 c7 A8 c8 A9 c9 w1 := (by unfold InReplica; repeat (first | assumption | exact Below.refl _ _ | (refine below_trans ?_ (by assumption)) | apply below_alloc | apply below_drewN | apply Below.drew)); have iM : InMail (w.alloc _) { m with Kind := 3 } 75 B d w1 := hb1; have g1 := iR.seen; have k1 := iM.seen; simp at k1) | (go_at_call 19; refine (within_c _ _ _ _).mono ?_; rintro e w' ⟨rfl, rfl⟩) | (go_at_call 62; refine (hasOf_3 _).mono ?_; rintro e w2 ⟨rfl, hb2⟩; have g2 := (iR.step hb2).seen; have k2 := (iM.step hb2).seen; simp at k2; have z2 : w.heap.size + 1 < w2.heap.size := (by have h := (iM.step hb2).size; simp at h; omega); have y2 : w.heap.size < w2.heap.size := (by omega); clear g1 k1) | (go_at_call 63; refine (entryFault_c m.Entry _).mono ?_; rintro e w4 ⟨rfl, hb4⟩; have g4 := seenReplica w n 60 A5 c5 A7 c7 A8 c8 A9 c9 w4 (by repeat (first | assumption | exact Below.refl _ _ | (refine below_trans ?_ (by assumption)) | apply below_alloc | apply below_drewN | apply Below.drew)); have k4 := seenMail (w.alloc _) { m with Kind := 3 } 75 B d w4 (by repeat (first | assumption | exact Below.refl _ _ | (refine below_trans ?_ (by assumption)) | apply below_alloc | apply below_drewN | apply Below.drew)); simp at k4; have l4 := ((lies_alloc w2 #[.bool false, .bool false, .bool false, .bool false, .bool false] 108).below (by repeat (first | assumption | exact Below.refl _ _ | (refine below_trans ?_ (by assumption)) | apply below_alloc | apply below_drewN | apply Below.drew)) : Lies w4 _ _); have l40 := l4.c0; have l41 := l4.cS 0 rfl; have l42 := l4.cS 1 rfl; have l43 := l4.cS 2 rfl; have l44 := l4.cS 3 rfl; simp only [Nat.zero_add, Nat.reduceAdd] at l41 l42 l43 l44))
    all_goals (go_ret; refine ⟨ret_int ?_, by repeat (first | assumption | exact Below.refl _ _ | (refine below_trans ?_ (by assumption)) | apply below_alloc | apply below_drewN | apply Below.drew)⟩; go_light; simp_all [mailT, numB, bareB, entry_beq])

set_option maxRecDepth 100000 in
set_option maxHeartbeats 2000000 in
theorem mailFault_6 (n : SReplica) (m : SMail) (A5 : Option Addr) (c5 : Nat) (A7 : Option Addr) (c7 : Nat) (A8 : Option Addr) (c8 : Nat) (A9 : Option Addr) (c9 : Nat) (B : Option Addr) (d : Nat) (w : World) (h5 : RdS kEntry w A5 c5 n.Log) (h7 : RdS kInt w A7 c7 n.Oks) (h8 : RdS kBool w A8 c8 n.Asks) (h9 : RdS kDoer w A9 c9 n.Doers) (hB : RdS kEntry w B d m.Log)  :
    Calls Tryz.prog 40 #[.agg #[.int .i64 n.Id, .int .i64 n.Size, .int .i64 n.View, .bool n.Normal, .int .i64 n.Last, .slice A5 n.Log.length c5, .int .i64 n.Commit, .slice A7 n.Oks.length c7, .slice A8 n.Asks.length c8, .slice A9 n.Doers.length c9], .agg #[.int .i64 6, .int .i64 m.From, .int .i64 m.To, .int .i64 m.View, .int .i64 m.At, .bool m.Has, .int .i64 m.Entry.Client, .int .i64 m.Entry.Seq, .int .i64 m.Entry.Op.Kind, .int .i64 m.Entry.Op.Vol, .int .i64 m.Entry.Op.At, .int .i64 m.Entry.Op.Value, .int .i64 m.Last, .slice B m.Log.length d, .int .i64 m.Commit]] w fun e w' => e = .returned (.int .i64 (mailF n { m with Kind := 6 })) ∧ Below w.heap.size w w' := by
  have hlen : m.Log.length ≤ 9223372036854775807 := by have h1 := hB.1; have h2 := hB.2.1; unfold maxLen at h2; omega
  cases hq : (repF n != 0) with
  | true =>
    have hF : mailF n { m with Kind := 6 } = repF n := by unfold mailF; rw [if_pos hq]
    have HF := Lib.hid hF; clear hF
    go_enter Tryz.func40, Tryz.ntmps40
    go_wp2_with (go_at_call 39; refine (replicaFault_c n A5 c5 A7 c7 A8 c8 A9 c9 _ ?_ ?_ ?_ ?_).mono ?_; exact h5.below (by repeat (first | assumption | exact Below.refl _ _ | (refine below_trans ?_ (by assumption)) | apply below_alloc | apply below_drewN | apply Below.drew)); exact h7.below (by repeat (first | assumption | exact Below.refl _ _ | (refine below_trans ?_ (by assumption)) | apply below_alloc | apply below_drewN | apply Below.drew)); exact h8.below (by repeat (first | assumption | exact Below.refl _ _ | (refine below_trans ?_ (by assumption)) | apply below_alloc | apply below_drewN | apply Below.drew)); exact h9.below (by repeat (first | assumption | exact Below.refl _ _ | (refine below_trans ?_ (by assumption)) | apply below_alloc | apply below_drewN | apply Below.drew)); rintro e w1 ⟨rfl, hb1⟩)
    go_ret
    exact ⟨ret_int HF.out.symm, by repeat (first | assumption | exact Below.refl _ _ | (refine below_trans ?_ (by assumption)) | apply below_alloc | apply below_drewN | apply Below.drew)⟩
  | false =>
    have hF : mailF n { m with Kind := 6 } = mailT n { m with Kind := 6 } := by unfold mailF; rw [if_neg (by rw [hq]; simp)]
    obtain ⟨b1, b2⟩ := wi_b (repF_size hq)
    rw [hF]; clear hF
    have hk : wi 6 1 6 = true := rfl
    go_enter Tryz.func40, Tryz.ntmps40
    go_wp2_with (first | (go_at_call 39; refine (replicaFault_c n A5 c5 A7 c7 A8 c8 A9 c9 _ ?_ ?_ ?_ ?_).mono ?_; exact h5.below (by repeat (first | assumption | exact Below.refl _ _ | (refine below_trans ?_ (by assumption)) | apply below_alloc | apply below_drewN | apply Below.drew)); exact h7.below (by repeat (first | assumption | exact Below.refl _ _ | (refine below_trans ?_ (by assumption)) | apply below_alloc | apply below_drewN | apply Below.drew)); exact h8.below (by repeat (first | assumption | exact Below.refl _ _ | (refine below_trans ?_ (by assumption)) | apply below_alloc | apply below_drewN | apply Below.drew)); exact h9.below (by repeat (first | assumption | exact Below.refl _ _ | (refine below_trans ?_ (by assumption)) | apply below_alloc | apply below_drewN | apply Below.drew)); rintro e w1 ⟨rfl, hb1⟩; have iR : InReplica w n 60 A5 c5 A7 c7 A8 c8 A9 c9 w1 := (by unfold InReplica; repeat (first | assumption | exact Below.refl _ _ | (refine below_trans ?_ (by assumption)) | apply below_alloc | apply below_drewN | apply Below.drew)); have iM : InMail (w.alloc _) { m with Kind := 6 } 75 B d w1 := hb1; have g1 := iR.seen; have k1 := iM.seen; simp at k1) | (go_at_call 19; refine (within_c _ _ _ _).mono ?_; rintro e w' ⟨rfl, rfl⟩) | (go_at_call 62; refine (hasOf_6 _).mono ?_; rintro e w2 ⟨rfl, hb2⟩; have g2 := (iR.step hb2).seen; have k2 := (iM.step hb2).seen; simp at k2; have z2 : w.heap.size + 1 < w2.heap.size := (by have h := (iM.step hb2).size; simp at h; omega); have y2 : w.heap.size < w2.heap.size := (by omega); clear g1 k1) | (go_at_call 63; refine (entryFault_c m.Entry _).mono ?_; rintro e w4 ⟨rfl, hb4⟩; have g4 := seenReplica w n 60 A5 c5 A7 c7 A8 c8 A9 c9 w4 (by repeat (first | assumption | exact Below.refl _ _ | (refine below_trans ?_ (by assumption)) | apply below_alloc | apply below_drewN | apply Below.drew)); have k4 := seenMail (w.alloc _) { m with Kind := 6 } 75 B d w4 (by repeat (first | assumption | exact Below.refl _ _ | (refine below_trans ?_ (by assumption)) | apply below_alloc | apply below_drewN | apply Below.drew)); simp at k4; have l4 := ((lies_alloc w2 #[.bool false, .bool false, .bool false, .bool false, .bool false] 108).below (by repeat (first | assumption | exact Below.refl _ _ | (refine below_trans ?_ (by assumption)) | apply below_alloc | apply below_drewN | apply Below.drew)) : Lies w4 _ _); have l40 := l4.c0; have l41 := l4.cS 0 rfl; have l42 := l4.cS 1 rfl; have l43 := l4.cS 2 rfl; have l44 := l4.cS 3 rfl; simp only [Nat.zero_add, Nat.reduceAdd] at l41 l42 l43 l44))
    all_goals (go_ret; refine ⟨ret_int ?_, by repeat (first | assumption | exact Below.refl _ _ | (refine below_trans ?_ (by assumption)) | apply below_alloc | apply below_drewN | apply Below.drew)⟩; go_light; simp_all [mailT, numB, bareB, entry_beq])
end Go.Proofs.YtfblopmploohkaaGreatDoor

/- Faults of a mail that bears a log: what the program's MailFault comes to (written by gA6.py, own work). -/
set_option linter.unusedVariables false
set_option linter.unusedSimpArgs false
namespace Go.Proofs.YtfblopmploohkaaGreatDoor
open Go Go.RowKit Mk

set_option maxRecDepth 100000 in
set_option maxHeartbeats 2000000 in
theorem mailFault_4 (n : SReplica) (m : SMail) (A5 : Option Addr) (c5 : Nat) (A7 : Option Addr) (c7 : Nat) (A8 : Option Addr) (c8 : Nat) (A9 : Option Addr) (c9 : Nat) (B : Option Addr) (d : Nat) (w : World) (h5 : RdS kEntry w A5 c5 n.Log) (h7 : RdS kInt w A7 c7 n.Oks) (h8 : RdS kBool w A8 c8 n.Asks) (h9 : RdS kDoer w A9 c9 n.Doers) (hB : RdS kEntry w B d m.Log)  :
    Calls Tryz.prog 40 #[.agg #[.int .i64 n.Id, .int .i64 n.Size, .int .i64 n.View, .bool n.Normal, .int .i64 n.Last, .slice A5 n.Log.length c5, .int .i64 n.Commit, .slice A7 n.Oks.length c7, .slice A8 n.Asks.length c8, .slice A9 n.Doers.length c9], .agg #[.int .i64 4, .int .i64 m.From, .int .i64 m.To, .int .i64 m.View, .int .i64 m.At, .bool m.Has, .int .i64 m.Entry.Client, .int .i64 m.Entry.Seq, .int .i64 m.Entry.Op.Kind, .int .i64 m.Entry.Op.Vol, .int .i64 m.Entry.Op.At, .int .i64 m.Entry.Op.Value, .int .i64 m.Last, .slice B m.Log.length d, .int .i64 m.Commit]] w fun e w' => e = .returned (.int .i64 (mailF n { m with Kind := 4 })) ∧ Below w.heap.size w w' := by
  have hlen : m.Log.length ≤ 9223372036854775807 := by have h1 := hB.1; have h2 := hB.2.1; unfold maxLen at h2; omega
  cases hq : (repF n != 0) with
  | true =>
    have hF : mailF n { m with Kind := 4 } = repF n := by unfold mailF; rw [if_pos hq]
    have HF := Lib.hid hF; clear hF
    go_enter Tryz.func40, Tryz.ntmps40
    go_wp2_with (go_at_call 39; refine (replicaFault_c n A5 c5 A7 c7 A8 c8 A9 c9 _ ?_ ?_ ?_ ?_).mono ?_; exact h5.below (by repeat (first | assumption | exact Below.refl _ _ | (refine below_trans ?_ (by assumption)) | apply below_alloc | apply below_drewN | apply Below.drew)); exact h7.below (by repeat (first | assumption | exact Below.refl _ _ | (refine below_trans ?_ (by assumption)) | apply below_alloc | apply below_drewN | apply Below.drew)); exact h8.below (by repeat (first | assumption | exact Below.refl _ _ | (refine below_trans ?_ (by assumption)) | apply below_alloc | apply below_drewN | apply Below.drew)); exact h9.below (by repeat (first | assumption | exact Below.refl _ _ | (refine below_trans ?_ (by assumption)) | apply below_alloc | apply below_drewN | apply Below.drew)); rintro e w1 ⟨rfl, hb1⟩)
    go_ret
    exact ⟨ret_int HF.out.symm, by repeat (first | assumption | exact Below.refl _ _ | (refine below_trans ?_ (by assumption)) | apply below_alloc | apply below_drewN | apply Below.drew)⟩
  | false =>
    have hF : mailF n { m with Kind := 4 } = mailT n { m with Kind := 4 } := by unfold mailF; rw [if_neg (by rw [hq]; simp)]
    obtain ⟨b1, b2⟩ := wi_b (repF_size hq)
    rw [hF]; clear hF
    have hk : wi 4 1 6 = true := rfl
    go_enter Tryz.func40, Tryz.ntmps40
    go_wp2_with (first | (go_at_call 39; refine (replicaFault_c n A5 c5 A7 c7 A8 c8 A9 c9 _ ?_ ?_ ?_ ?_).mono ?_; exact h5.below (by repeat (first | assumption | exact Below.refl _ _ | (refine below_trans ?_ (by assumption)) | apply below_alloc | apply below_drewN | apply Below.drew)); exact h7.below (by repeat (first | assumption | exact Below.refl _ _ | (refine below_trans ?_ (by assumption)) | apply below_alloc | apply below_drewN | apply Below.drew)); exact h8.below (by repeat (first | assumption | exact Below.refl _ _ | (refine below_trans ?_ (by assumption)) | apply below_alloc | apply below_drewN | apply Below.drew)); exact h9.below (by repeat (first | assumption | exact Below.refl _ _ | (refine below_trans ?_ (by assumption)) | apply below_alloc | apply below_drewN | apply Below.drew)); rintro e w1 ⟨rfl, hb1⟩; have iR : InReplica w n 60 A5 c5 A7 c7 A8 c8 A9 c9 w1 := (by unfold InReplica; repeat (first | assumption | exact Below.refl _ _ | (refine below_trans ?_ (by assumption)) | apply below_alloc | apply below_drewN | apply Below.drew)); have iM : InMail (w.alloc _) { m with Kind := 4 } 75 B d w1 := hb1; have g1 := iR.seen; have k1 := iM.seen; simp at k1) | (go_at_call 19; refine (within_c _ _ _ _).mono ?_; rintro e w' ⟨rfl, rfl⟩) | (go_at_call 62; refine (hasOf_4 _).mono ?_; rintro e w2 ⟨rfl, hb2⟩; have g2 := (iR.step hb2).seen; have k2 := (iM.step hb2).seen; simp at k2; have z2 : w.heap.size + 1 < w2.heap.size := (by have h := (iM.step hb2).size; simp at h; omega); have y2 : w.heap.size < w2.heap.size := (by omega); clear g1 k1) | (go_at_call 41; refine (logFault_c m.Log _ _ _ ?_).mono ?_; exact hB.below (by repeat (first | assumption | exact Below.refl _ _ | (refine below_trans ?_ (by assumption)) | apply below_alloc | apply below_drewN | apply Below.drew)); rintro e w4 ⟨rfl, hb4⟩; have g4 := seenReplica w n 60 A5 c5 A7 c7 A8 c8 A9 c9 w4 (by repeat (first | assumption | exact Below.refl _ _ | (refine below_trans ?_ (by assumption)) | apply below_alloc | apply below_drewN | apply Below.drew)); have k4 := seenMail (w.alloc _) { m with Kind := 4 } 75 B d w4 (by repeat (first | assumption | exact Below.refl _ _ | (refine below_trans ?_ (by assumption)) | apply below_alloc | apply below_drewN | apply Below.drew)); simp at k4; have l4 := ((lies_alloc w2 #[.bool false, .bool true, .bool true, .bool true, .bool false] 108).below (by repeat (first | assumption | exact Below.refl _ _ | (refine below_trans ?_ (by assumption)) | apply below_alloc | apply below_drewN | apply Below.drew)) : Lies w4 _ _); have l40 := l4.c0; have l41 := l4.cS 0 rfl; have l42 := l4.cS 1 rfl; have l43 := l4.cS 2 rfl; have l44 := l4.cS 3 rfl; simp only [Nat.zero_add, Nat.reduceAdd] at l41 l42 l43 l44))
    all_goals first
      | (go_ret; refine ⟨ret_int ?_, by repeat (first | assumption | exact Below.refl _ _ | (refine below_trans ?_ (by assumption)) | apply below_alloc | apply below_drewN | apply Below.drew)⟩; go_light; simp_all [mailT, numB, bareB, entry_beq]; done)
      | skip
    go_quiet ((first | (go_at_call 57; exact Calls.quiet_of_same ((many_c m.Log _ _ _).mono fun e w' ⟨he, hw⟩ => ⟨he, hw.symm⟩)) | (go_at_call 19; exact Calls.quiet_of_same ((within_c _ _ _ _).mono fun e w' ⟨he, hw⟩ => ⟨he, hw.symm⟩))))
    go_wp2_with fail
    all_goals (go_ret; refine ⟨ret_int ?_, by repeat (first | assumption | exact Below.refl _ _ | (refine below_trans ?_ (by assumption)) | apply below_alloc | apply below_drewN | apply Below.drew)⟩; go_light; simp_all [mailT, numB, bareB, entry_beq])

set_option maxRecDepth 100000 in
set_option maxHeartbeats 2000000 in
theorem mailFault_5 (n : SReplica) (m : SMail) (A5 : Option Addr) (c5 : Nat) (A7 : Option Addr) (c7 : Nat) (A8 : Option Addr) (c8 : Nat) (A9 : Option Addr) (c9 : Nat) (B : Option Addr) (d : Nat) (w : World) (h5 : RdS kEntry w A5 c5 n.Log) (h7 : RdS kInt w A7 c7 n.Oks) (h8 : RdS kBool w A8 c8 n.Asks) (h9 : RdS kDoer w A9 c9 n.Doers) (hB : RdS kEntry w B d m.Log)  :
    Calls Tryz.prog 40 #[.agg #[.int .i64 n.Id, .int .i64 n.Size, .int .i64 n.View, .bool n.Normal, .int .i64 n.Last, .slice A5 n.Log.length c5, .int .i64 n.Commit, .slice A7 n.Oks.length c7, .slice A8 n.Asks.length c8, .slice A9 n.Doers.length c9], .agg #[.int .i64 5, .int .i64 m.From, .int .i64 m.To, .int .i64 m.View, .int .i64 m.At, .bool m.Has, .int .i64 m.Entry.Client, .int .i64 m.Entry.Seq, .int .i64 m.Entry.Op.Kind, .int .i64 m.Entry.Op.Vol, .int .i64 m.Entry.Op.At, .int .i64 m.Entry.Op.Value, .int .i64 m.Last, .slice B m.Log.length d, .int .i64 m.Commit]] w fun e w' => e = .returned (.int .i64 (mailF n { m with Kind := 5 })) ∧ Below w.heap.size w w' := by
  have hlen : m.Log.length ≤ 9223372036854775807 := by have h1 := hB.1; have h2 := hB.2.1; unfold maxLen at h2; omega
  cases hq : (repF n != 0) with
  | true =>
    have hF : mailF n { m with Kind := 5 } = repF n := by unfold mailF; rw [if_pos hq]
    have HF := Lib.hid hF; clear hF
    go_enter Tryz.func40, Tryz.ntmps40
    go_wp2_with (go_at_call 39; refine (replicaFault_c n A5 c5 A7 c7 A8 c8 A9 c9 _ ?_ ?_ ?_ ?_).mono ?_; exact h5.below (by repeat (first | assumption | exact Below.refl _ _ | (refine below_trans ?_ (by assumption)) | apply below_alloc | apply below_drewN | apply Below.drew)); exact h7.below (by repeat (first | assumption | exact Below.refl _ _ | (refine below_trans ?_ (by assumption)) | apply below_alloc | apply below_drewN | apply Below.drew)); exact h8.below (by repeat (first | assumption | exact Below.refl _ _ | (refine below_trans ?_ (by assumption)) | apply below_alloc | apply below_drewN | apply Below.drew)); exact h9.below (by repeat (first | assumption | exact Below.refl _ _ | (refine below_trans ?_ (by assumption)) | apply below_alloc | apply below_drewN | apply Below.drew)); rintro e w1 ⟨rfl, hb1⟩)
    go_ret
    exact ⟨ret_int HF.out.symm, by repeat (first | assumption | exact Below.refl _ _ | (refine below_trans ?_ (by assumption)) | apply below_alloc | apply below_drewN | apply Below.drew)⟩
  | false =>
    have hF : mailF n { m with Kind := 5 } = mailT n { m with Kind := 5 } := by unfold mailF; rw [if_neg (by rw [hq]; simp)]
    obtain ⟨b1, b2⟩ := wi_b (repF_size hq)
    rw [hF]; clear hF
    have hk : wi 5 1 6 = true := rfl
    go_enter Tryz.func40, Tryz.ntmps40
    go_wp2_with (first | (go_at_call 39; refine (replicaFault_c n A5 c5 A7 c7 A8 c8 A9 c9 _ ?_ ?_ ?_ ?_).mono ?_; exact h5.below (by repeat (first | assumption | exact Below.refl _ _ | (refine below_trans ?_ (by assumption)) | apply below_alloc | apply below_drewN | apply Below.drew)); exact h7.below (by repeat (first | assumption | exact Below.refl _ _ | (refine below_trans ?_ (by assumption)) | apply below_alloc | apply below_drewN | apply Below.drew)); exact h8.below (by repeat (first | assumption | exact Below.refl _ _ | (refine below_trans ?_ (by assumption)) | apply below_alloc | apply below_drewN | apply Below.drew)); exact h9.below (by repeat (first | assumption | exact Below.refl _ _ | (refine below_trans ?_ (by assumption)) | apply below_alloc | apply below_drewN | apply Below.drew)); rintro e w1 ⟨rfl, hb1⟩; have iR : InReplica w n 60 A5 c5 A7 c7 A8 c8 A9 c9 w1 := (by unfold InReplica; repeat (first | assumption | exact Below.refl _ _ | (refine below_trans ?_ (by assumption)) | apply below_alloc | apply below_drewN | apply Below.drew)); have iM : InMail (w.alloc _) { m with Kind := 5 } 75 B d w1 := hb1; have g1 := iR.seen; have k1 := iM.seen; simp at k1) | (go_at_call 19; refine (within_c _ _ _ _).mono ?_; rintro e w' ⟨rfl, rfl⟩) | (go_at_call 62; refine (hasOf_5 _).mono ?_; rintro e w2 ⟨rfl, hb2⟩; have g2 := (iR.step hb2).seen; have k2 := (iM.step hb2).seen; simp at k2; have z2 : w.heap.size + 1 < w2.heap.size := (by have h := (iM.step hb2).size; simp at h; omega); have y2 : w.heap.size < w2.heap.size := (by omega); clear g1 k1) | (go_at_call 41; refine (logFault_c m.Log _ _ _ ?_).mono ?_; exact hB.below (by repeat (first | assumption | exact Below.refl _ _ | (refine below_trans ?_ (by assumption)) | apply below_alloc | apply below_drewN | apply Below.drew)); rintro e w4 ⟨rfl, hb4⟩; have g4 := seenReplica w n 60 A5 c5 A7 c7 A8 c8 A9 c9 w4 (by repeat (first | assumption | exact Below.refl _ _ | (refine below_trans ?_ (by assumption)) | apply below_alloc | apply below_drewN | apply Below.drew)); have k4 := seenMail (w.alloc _) { m with Kind := 5 } 75 B d w4 (by repeat (first | assumption | exact Below.refl _ _ | (refine below_trans ?_ (by assumption)) | apply below_alloc | apply below_drewN | apply Below.drew)); simp at k4; have l4 := ((lies_alloc w2 #[.bool false, .bool true, .bool false, .bool true, .bool false] 108).below (by repeat (first | assumption | exact Below.refl _ _ | (refine below_trans ?_ (by assumption)) | apply below_alloc | apply below_drewN | apply Below.drew)) : Lies w4 _ _); have l40 := l4.c0; have l41 := l4.cS 0 rfl; have l42 := l4.cS 1 rfl; have l43 := l4.cS 2 rfl; have l44 := l4.cS 3 rfl; simp only [Nat.zero_add, Nat.reduceAdd] at l41 l42 l43 l44))
    all_goals first
      | (go_ret; refine ⟨ret_int ?_, by repeat (first | assumption | exact Below.refl _ _ | (refine below_trans ?_ (by assumption)) | apply below_alloc | apply below_drewN | apply Below.drew)⟩; go_light; simp_all [mailT, numB, bareB, entry_beq]; done)
      | skip
    go_quiet ((first | (go_at_call 57; exact Calls.quiet_of_same ((many_c m.Log _ _ _).mono fun e w' ⟨he, hw⟩ => ⟨he, hw.symm⟩)) | (go_at_call 19; exact Calls.quiet_of_same ((within_c _ _ _ _).mono fun e w' ⟨he, hw⟩ => ⟨he, hw.symm⟩))))
    go_wp2_with fail
    all_goals (go_ret; refine ⟨ret_int ?_, by repeat (first | assumption | exact Below.refl _ _ | (refine below_trans ?_ (by assumption)) | apply below_alloc | apply below_drewN | apply Below.drew)⟩; go_light; simp_all [mailT, numB, bareB, entry_beq])
theorem mailFault_c (n : SReplica) (m : SMail) (A5 : Option Addr) (c5 : Nat) (A7 : Option Addr) (c7 : Nat) (A8 : Option Addr) (c8 : Nat) (A9 : Option Addr) (c9 : Nat) (B : Option Addr) (d : Nat) (w : World) (h5 : RdS kEntry w A5 c5 n.Log) (h7 : RdS kInt w A7 c7 n.Oks) (h8 : RdS kBool w A8 c8 n.Asks) (h9 : RdS kDoer w A9 c9 n.Doers) (hB : RdS kEntry w B d m.Log) :
    Calls Tryz.prog 40 #[.agg #[.int .i64 n.Id, .int .i64 n.Size, .int .i64 n.View, .bool n.Normal, .int .i64 n.Last, .slice A5 n.Log.length c5, .int .i64 n.Commit, .slice A7 n.Oks.length c7, .slice A8 n.Asks.length c8, .slice A9 n.Doers.length c9], .agg #[.int .i64 m.Kind, .int .i64 m.From, .int .i64 m.To, .int .i64 m.View, .int .i64 m.At, .bool m.Has, .int .i64 m.Entry.Client, .int .i64 m.Entry.Seq, .int .i64 m.Entry.Op.Kind, .int .i64 m.Entry.Op.Vol, .int .i64 m.Entry.Op.At, .int .i64 m.Entry.Op.Value, .int .i64 m.Last, .slice B m.Log.length d, .int .i64 m.Commit]] w fun e w' => e = .returned (.int .i64 (mailF n m)) ∧ Below w.heap.size w w' := by
  cases hk : wi m.Kind 1 6 with
  | false => exact mailFault_other n m A5 c5 A7 c7 A8 c8 A9 c9 B d w h5 h7 h8 h9 hB hk
  | true =>
    obtain ⟨k1, k2⟩ := wi_b hk
    have : m.Kind = 1 ∨ m.Kind = 2 ∨ m.Kind = 3 ∨ m.Kind = 4 ∨ m.Kind = 5 ∨ m.Kind = 6 := by omega
    obtain ⟨K, F, T, V, P_, H, E, L, lg, C⟩ := m
    dsimp only at this hB
    rcases this with rfl | rfl | rfl | rfl | rfl | rfl
    · exact mailFault_1 n ⟨1, F, T, V, P_, H, E, L, lg, C⟩ A5 c5 A7 c7 A8 c8 A9 c9 B d w h5 h7 h8 h9 hB
    · exact mailFault_2 n ⟨2, F, T, V, P_, H, E, L, lg, C⟩ A5 c5 A7 c7 A8 c8 A9 c9 B d w h5 h7 h8 h9 hB
    · exact mailFault_3 n ⟨3, F, T, V, P_, H, E, L, lg, C⟩ A5 c5 A7 c7 A8 c8 A9 c9 B d w h5 h7 h8 h9 hB
    · exact mailFault_4 n ⟨4, F, T, V, P_, H, E, L, lg, C⟩ A5 c5 A7 c7 A8 c8 A9 c9 B d w h5 h7 h8 h9 hB
    · exact mailFault_5 n ⟨5, F, T, V, P_, H, E, L, lg, C⟩ A5 c5 A7 c7 A8 c8 A9 c9 B d w h5 h7 h8 h9 hB
    · exact mailFault_6 n ⟨6, F, T, V, P_, H, E, L, lg, C⟩ A5 c5 A7 c7 A8 c8 A9 c9 B d w h5 h7 h8 h9 hB
end Go.Proofs.YtfblopmploohkaaGreatDoor

/- Faults of a cluster: what the program's ClusterFault comes to (written by gA7.py, own work). -/
set_option linter.unusedVariables false
set_option linter.unusedSimpArgs false
namespace Go.Proofs.YtfblopmploohkaaGreatDoor
open Go Go.RowKit Mk
theorem cell_alloc {w : World} {a : Addr} {v : Value} (h : w.cell? a = some v) (o : Obj) : (w.alloc o).cell? a = some v := (World.cell?_alloc_lt w o a (World.block_lt_of_cell? w a h)).trans h
def firstI {α : Type} (f : Nat → α → Int) : Nat → List α → Int
  | _, [] => 0
  | i, x :: xs => if f i x != 0 then f i x else firstI f (i + 1) xs
theorem firstI_drop {α : Type} (f : Nat → α → Int) (xs : List α) (k : Nat) (h : k < xs.length) : firstI f k (xs.drop k) = if f k xs[k] != 0 then f k xs[k] else firstI f (k + 1) (xs.drop (k + 1)) := by
  rw [List.drop_eq_getElem_cons h]; rfl
def nodeF (size : Int) (i : Nat) (n : SReplica) : Int := if repF n != 0 then repF n else if n.Id != (i : Int) || n.Size != size then 1 else 0
def mailInF (c : SCluster) (m : SMail) : Int := if !wi m.To 0 (c.Nodes.length - 1) then 3 else mailF (c.Nodes.getD m.To.toNat zReplica) m
def clusF (c : SCluster) : Int :=
  if !wi c.Nodes.length 1 5 || decide (120 < c.Mails.length) then 2
  else if firstI (nodeF c.Nodes.length) 0 c.Nodes != 0 then firstI (nodeF c.Nodes.length) 0 c.Nodes
  else if first (mailInF c) c.Mails != 0 then first (mailInF c) c.Mails
  else logF c.Sealed
set_option maxRecDepth 100000 in
set_option maxHeartbeats 2000000 in
theorem clusterFault_c (c : SCluster) (A0 : Option Addr) (c0 : Nat) (A1 : Option Addr) (c1 : Nat) (A2 : Option Addr) (c2 : Nat) (w : World)
    (h0 : RdS kReplica w A0 c0 c.Nodes) (h1 : RdS kMail w A1 c1 c.Mails) (h2 : RdS kEntry w A2 c2 c.Sealed) :
    Calls Tryz.prog 21 #[.agg #[.slice A0 c.Nodes.length c0, .slice A1 c.Mails.length c1, .slice A2 c.Sealed.length c2]] w fun e w' => e = .returned (.int .i64 (clusF c)) ∧ Below w.heap.size w w' := by
  have hl0 := h0.le63
  have hl1 := h1.le63
  cases hs : wi c.Nodes.length 1 5 with
  | false =>
    have hr : clusF c = 2 := by simp [clusF, hs]
    have HR := Lib.hid hr; clear hr
    go_enter Tryz.func21, Tryz.ntmps21
    go_wp2_with (first | (go_at_call 19; refine (within_c _ _ _ _).mono ?_; rintro e w' ⟨rfl, rfl⟩))
    go_ret; exact ⟨ret_int HR.out.symm, by repeat (first | assumption | exact Below.refl _ _ | (refine below_trans ?_ (by assumption)) | apply below_alloc | apply below_drewN | apply Below.drew)⟩
  | true =>
    obtain ⟨b1, b2⟩ := wi_b hs
    by_cases hm : 120 < c.Mails.length
    · have hr : clusF c = 2 := by simp [clusF, hm]
      have HR := Lib.hid hr; clear hr
      go_enter Tryz.func21, Tryz.ntmps21
      go_wp2_with (first | (go_at_call 19; refine (within_c _ _ _ _).mono ?_; rintro e w' ⟨rfl, rfl⟩))
      go_ret; exact ⟨ret_int HR.out.symm, by repeat (first | assumption | exact Below.refl _ _ | (refine below_trans ?_ (by assumption)) | apply below_alloc | apply below_drewN | apply Below.drew)⟩
    · have hr : clusF c = if firstI (nodeF c.Nodes.length) 0 c.Nodes != 0 then firstI (nodeF c.Nodes.length) 0 c.Nodes else if first (mailInF c) c.Mails != 0 then first (mailInF c) c.Mails else logF c.Sealed := by simp [clusF, hm, hs]
      have HR := Lib.hid hr; clear hr
      go_enter Tryz.func21, Tryz.ntmps21
      go_wp2_with (first | (go_at_call 19; refine (within_c _ _ _ _).mono ?_; rintro e w' ⟨rfl, rfl⟩))
      clear hm
      go_loopw [25] (fun i W => ∃ k : Nat, k ≤ c.Nodes.length ∧ i = .int .i64 k ∧ firstI (nodeF c.Nodes.length) k (c.Nodes.drop k) = firstI (nodeF c.Nodes.length) 0 c.Nodes ∧ InCluster w c 34 A0 c0 A1 c1 A2 c2 W) (fun i _ => c.Nodes.length - (intOf i).toNat)
      case atStart => exact ⟨0, Nat.zero_le _, rfl, rfl, by unfold InCluster; repeat (first | assumption | exact Below.refl _ _ | (refine below_trans ?_ (by assumption)) | apply below_alloc | apply below_drewN | apply Below.drew)⟩
      case round =>
        obtain ⟨k, hk, rfl, hf, hi⟩ := hrel
        have hb := hi.below
        by_cases hlt : k < c.Nodes.length
        · have hsd := firstI_drop (nodeF c.Nodes.length) c.Nodes k hlt
          have HS := Lib.hid (hsd.symm.trans hf); clear hsd hf
          generalize hn : c.Nodes[k] = n at *
          have HN := Lib.hid hn; clear hn
          obtain ⟨a, cs, rfl, hl, hr⟩ := (h0.below hb).at (List.getElem?_eq_getElem hlt)
          rw [HN.out] at hr
          obtain ⟨A5, c5, A7, c7, A8, c8, A9, c9, rfl, hs5, hs7, hs8, hs9⟩ := kReplica_open hr
          have f0 := hl.c0
          have f1 := hl.cS 0 rfl
          have f2 := hl.cS 1 rfl
          have f3 := hl.cS 2 rfl
          have f4 := hl.cS 3 rfl
          have f5 := hl.cS 4 rfl
          have f6 := hl.cS 5 rfl
          have f7 := hl.cS 6 rfl
          have f8 := hl.cS 7 rfl
          have f9 := hl.cS 8 rfl
          simp only [show kReplica.sz = 10 from rfl, Nat.zero_add, Nat.reduceAdd] at f0 f1 f2 f3 f4 f5 f6 f7 f8 f9
          clear hl hr
          go_wp2_with (go_at_call 39; refine (replicaFault_c n _ _ _ _ _ _ _ _ _ ?_ ?_ ?_ ?_).mono ?_; exact hs5.below (by repeat (first | assumption | exact Below.refl _ _ | (refine below_trans ?_ (by assumption)) | apply below_alloc | apply below_drewN | apply Below.drew)); exact hs7.below (by repeat (first | assumption | exact Below.refl _ _ | (refine below_trans ?_ (by assumption)) | apply below_alloc | apply below_drewN | apply Below.drew)); exact hs8.below (by repeat (first | assumption | exact Below.refl _ _ | (refine below_trans ?_ (by assumption)) | apply below_alloc | apply below_drewN | apply Below.drew)); exact hs9.below (by repeat (first | assumption | exact Below.refl _ _ | (refine below_trans ?_ (by assumption)) | apply below_alloc | apply below_drewN | apply Below.drew)); rintro e w5 ⟨rfl, hb5⟩; have g5 := seenReplica wr n 60 _ _ _ _ _ _ _ _ w5 hb5)
          all_goals (have hh := HS.out; have hrr := HR.out)
          · have q := (show (repF n != 0) = true by assumption)
            go_ret; refine ⟨ret_int ?_, by repeat (first | assumption | exact Below.refl _ _ | (refine below_trans ?_ (by assumption)) | apply below_alloc | apply below_drewN | apply Below.drew)⟩
            have e : nodeF c.Nodes.length k n = repF n := by unfold nodeF; rw [if_pos q]
            rw [e, if_pos q] at hh
            rw [hrr, ← hh, if_pos q]
          · go_ret; refine ⟨ret_int ?_, by repeat (first | assumption | exact Below.refl _ _ | (refine below_trans ?_ (by assumption)) | apply below_alloc | apply below_drewN | apply Below.drew)⟩
            have e : nodeF c.Nodes.length k n = 1 := by clear g5; unfold nodeF; rw [if_neg (by simp_all), if_pos (by simp_all)]
            rw [e] at hh
            rw [hrr, ← hh]; rfl
          · go_ret; refine ⟨ret_int ?_, by repeat (first | assumption | exact Below.refl _ _ | (refine below_trans ?_ (by assumption)) | apply below_alloc | apply below_drewN | apply Below.drew)⟩
            have e : nodeF c.Nodes.length k n = 1 := by clear g5; unfold nodeF; rw [if_neg (by simp_all), if_pos (by simp_all)]
            rw [e] at hh
            rw [hrr, ← hh]; rfl
          · refine ⟨⟨k + 1, hlt, by go_num, ?_, hi.step (by repeat (first | assumption | exact Below.refl _ _ | (refine below_trans ?_ (by assumption)) | apply below_alloc | apply below_drewN | apply Below.drew))⟩, by simp [intOf]; omega⟩
            have e : nodeF c.Nodes.length k n = 0 := by clear g5; unfold nodeF; rw [if_neg (by simp_all), if_neg (by simp_all)]
            rw [e] at hh
            exact hh
        · have HF := Lib.hid hf; clear hf
          have g0 := hi.seen
          go_wp2_with fail
          have hz : firstI (nodeF c.Nodes.length) 0 c.Nodes = 0 := by rw [← HF.out, List.drop_of_length_le (by omega)]; rfl
          have hr2 : clusF c = if first (mailInF c) c.Mails != 0 then first (mailInF c) c.Mails else logF c.Sealed := by rw [HR.out, hz]; rfl
          have HR2 := Lib.hid hr2
          clear hr2 hz HR HF g0
          go_loopw [49] (fun i W => ∃ k : Nat, k ≤ c.Mails.length ∧ i = .int .i64 k ∧ first (mailInF c) (c.Mails.drop k) = first (mailInF c) c.Mails ∧ InCluster w c 34 A0 c0 A1 c1 A2 c2 W) (fun i _ => c.Mails.length - (intOf i).toNat)
          case atStart => exact ⟨0, Nat.zero_le _, rfl, rfl, hi⟩
          case round =>
            clear hi hb hlt hk
            obtain ⟨k, hk, rfl, hf, hi⟩ := hrel
            have hb := hi.below
            have gc := hi.seen
            by_cases hlt : k < c.Mails.length
            · have hsd := first_drop (mailInF c) c.Mails k hlt
              have HS := Lib.hid (hsd.symm.trans hf); clear hsd hf
              generalize hn : c.Mails[k] = m at *
              have HN := Lib.hid hn; clear hn
              obtain ⟨a, cs, rfl, hl, hr⟩ := (h1.below hb).at (List.getElem?_eq_getElem hlt)
              rw [HN.out] at hr
              obtain ⟨A13, c13, rfl, hs13⟩ := kMail_open hr
              have f0 := hl.c0
              have f1 := hl.cS 0 rfl
              have f2 := hl.cS 1 rfl
              have f3 := hl.cS 2 rfl
              have f4 := hl.cS 3 rfl
              have f5 := hl.cS 4 rfl
              have f6 := hl.cS 5 rfl
              have f7 := hl.cS 6 rfl
              have f8 := hl.cS 7 rfl
              have f9 := hl.cS 8 rfl
              have f10 := hl.cS 9 rfl
              have f11 := hl.cS 10 rfl
              have f12 := hl.cS 11 rfl
              have f13 := hl.cS 12 rfl
              have f14 := hl.cS 13 rfl
              simp only [show kMail.sz = 15 from rfl, Nat.zero_add, Nat.reduceAdd] at f0 f1 f2 f3 f4 f5 f6 f7 f8 f9 f10 f11 f12 f13 f14
              clear hl hr
              cases ht : wi m.To 0 (c.Nodes.length - 1) with
              | false =>
                go_wp2_with (first | (go_at_call 19; refine (within_c _ _ _ _).mono ?_; rintro e w' ⟨rfl, rfl⟩))
                have hh := HS.out
                have e : mailInF c m = 3 := by simp [mailInF, ht]
                go_ret; refine ⟨ret_int ?_, by repeat (first | assumption | exact Below.refl _ _ | (refine below_trans ?_ (by assumption)) | apply below_alloc | apply below_drewN | apply Below.drew)⟩
                rw [HR2.out, ← hh, e]; rfl
              | true =>
                obtain ⟨t1, t2⟩ := wi_b ht
                have t3 : m.To.toNat < c.Nodes.length := by omega
                have t4 : m.To < (c.Nodes.length : Int) := by omega
                go_wp2_with (first | (go_at_call 19; refine (within_c _ _ _ _).mono ?_; rintro e w' ⟨rfl, rfl⟩))
                have bw : Below wr.heap.size wr (wr.alloc (.cells #[.int .i64 m.Kind, .int .i64 m.From, .int .i64 m.To, .int .i64 m.View, .int .i64 m.At, .bool m.Has, .int .i64 m.Entry.Client, .int .i64 m.Entry.Seq, .int .i64 m.Entry.Op.Kind, .int .i64 m.Entry.Op.Vol, .int .i64 m.Entry.Op.At, .int .i64 m.Entry.Op.Value, .int .i64 m.Last, .slice A13 m.Log.length c13, .int .i64 m.Commit] 75)) := below_alloc (Below.refl _ _) _
                have mb : At kMail (wr.alloc (.cells #[.int .i64 m.Kind, .int .i64 m.From, .int .i64 m.To, .int .i64 m.View, .int .i64 m.At, .bool m.Has, .int .i64 m.Entry.Client, .int .i64 m.Entry.Seq, .int .i64 m.Entry.Op.Kind, .int .i64 m.Entry.Op.Vol, .int .i64 m.Entry.Op.At, .int .i64 m.Entry.Op.Value, .int .i64 m.Last, .slice A13 m.Log.length c13, .int .i64 m.Commit] 75)) ⟨wr.heap.size, 0, none⟩ m := boxMail wr m 75 hs13
                clear f0 f1 f2 f3 f4 f5 f6 f7 f8 f9 f10 f11 f12 f13 f14 gc
                generalize wr.alloc (.cells #[.int .i64 m.Kind, .int .i64 m.From, .int .i64 m.To, .int .i64 m.View, .int .i64 m.At, .bool m.Has, .int .i64 m.Entry.Client, .int .i64 m.Entry.Seq, .int .i64 m.Entry.Op.Kind, .int .i64 m.Entry.Op.Vol, .int .i64 m.Entry.Op.At, .int .i64 m.Entry.Op.Value, .int .i64 m.Last, .slice A13 m.Log.length c13, .int .i64 m.Commit] 75) = W at bw mb ⊢
                have iW := hi.step bw
                have gW := iW.seen
                obtain ⟨a', cs', rfl, hl', hr'⟩ := (h0.below iW.below).at (List.getElem?_eq_getElem t3)
                generalize hn' : c.Nodes[m.To.toNat] = n at *
                have HN' := Lib.hid hn'; clear hn'
                obtain ⟨R5, r5, R7, r7, R8, r8, R9, r9, rfl, ks5, ks7, ks8, ks9⟩ := kReplica_open hr'
                have q0 := hl'.c0
                have q1 := hl'.cS 0 rfl
                have q2 := hl'.cS 1 rfl
                have q3 := hl'.cS 2 rfl
                have q4 := hl'.cS 3 rfl
                have q5 := hl'.cS 4 rfl
                have q6 := hl'.cS 5 rfl
                have q7 := hl'.cS 6 rfl
                have q8 := hl'.cS 7 rfl
                have q9 := hl'.cS 8 rfl
                simp only [show kReplica.sz = 10 from rfl, Nat.zero_add, Nat.reduceAdd] at q0 q1 q2 q3 q4 q5 q6 q7 q8 q9
                clear hl' hr'
                obtain ⟨MB, md, mm⟩ := atMail mb
                simp only [Nat.zero_add] at mm
                obtain ⟨m0, m1, m2, m3, m4, m5, m6, m7, m8, m9, m10, m11, m12, m13, m14, hmB⟩ := mm
                clear mb
                have e : mailInF c m = mailF n m := by
                  unfold mailInF
                  rw [if_neg (by rw [ht]; simp), List.getD_eq_getElem?_getD, List.getElem?_eq_getElem t3, HN'.out]; rfl
                have EE := Lib.hid e; clear e
                go_still_tail 7, (by kernel_rfl)
                change wpList _ _ _ _ _ W.drew
                go_wp2_with (go_at_call 40; refine (mailFault_c n m _ _ _ _ _ _ _ _ _ _ _ ?_ ?_ ?_ ?_ ?_).mono ?_; exact ks5.below (by repeat (first | assumption | exact Below.refl _ _ | (refine below_trans ?_ (by assumption)) | apply below_alloc | apply below_drewN | apply Below.drew)); exact ks7.below (by repeat (first | assumption | exact Below.refl _ _ | (refine below_trans ?_ (by assumption)) | apply below_alloc | apply below_drewN | apply Below.drew)); exact ks8.below (by repeat (first | assumption | exact Below.refl _ _ | (refine below_trans ?_ (by assumption)) | apply below_alloc | apply below_drewN | apply Below.drew)); exact ks9.below (by repeat (first | assumption | exact Below.refl _ _ | (refine below_trans ?_ (by assumption)) | apply below_alloc | apply below_drewN | apply Below.drew)); exact hmB.below (by repeat (first | assumption | exact Below.refl _ _ | (refine below_trans ?_ (by assumption)) | apply below_alloc | apply below_drewN | apply Below.drew)); rintro e w5 ⟨rfl, hb5⟩)
                · have q := (show (mailF n m != 0) = true by assumption)
                  have hh := HS.out
                  go_ret; refine ⟨ret_int ?_, below_trans iW.below (by repeat (first | assumption | exact Below.refl _ _ | (refine below_trans ?_ (by assumption)) | apply below_alloc | apply below_drewN | apply Below.drew))⟩
                  rw [EE.out, if_pos q] at hh
                  rw [HR2.out, ← hh, if_pos q]
                · have q := (show (mailF n m != 0) = false by assumption)
                  have hh := HS.out
                  refine ⟨⟨k + 1, hlt, by go_num, ?_, iW.step (by repeat (first | assumption | exact Below.refl _ _ | (refine below_trans ?_ (by assumption)) | apply below_alloc | apply below_drewN | apply Below.drew))⟩, by simp [intOf]; omega⟩
                  rw [EE.out, if_neg (by rw [q]; simp)] at hh
                  exact hh
            · have HF := Lib.hid hf; clear hf
              go_wp2_with (go_at_call 41; refine (logFault_c c.Sealed _ _ _ ?_).mono ?_; exact h2.below hb; rintro e w5 ⟨rfl, hb5⟩)
              go_ret
              exact ⟨ret_int (by rw [HR2.out, ← HF.out, List.drop_of_length_le (by omega)]; rfl), by repeat (first | assumption | exact Below.refl _ _ | (refine below_trans ?_ (by assumption)) | apply below_alloc | apply below_drewN | apply Below.drew)⟩
end Go.Proofs.YtfblopmploohkaaGreatDoor
