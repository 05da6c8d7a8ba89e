/- JoinChunks: the program's and the reference's (own work). -/
import Derived.Test.YtnbenhkbcodlfaaV1
import Derived.Test.YtnbenhkbcodlfaaA2
import Derived.Test.YtnbenhkbcodlfaaMz
import Derived.Lib.AppendZerosOnto
set_option linter.unusedVariables false
set_option linter.unusedSimpArgs false
namespace Go.Proofs.Ytnbenhkbcodlfaa
open Go Go.RowKit Mk
set_option maxHeartbeats 1000000 in
theorem indexFunc_row (g : Nat) (cb : Array Value) (eg : ∀ args w, (callFunc g args).run Try.prog w = .ok (.enter g args) w) (p : List Int → Bool) (xs : List (List Int)) (A : Option Addr) (c : Nat) (w : World) (h : RdS kRow w A c xs) (hp : Tells kRow g cb p w xs one) :
    Calls Try.prog 51 #[.slice A xs.length c, .func (.func g) #[] cb] w fun e w' => e = .returned (.int .i64 (idx p xs)) ∧ Below w.heap.size w w' := by
  have hlen : xs.length ≤ 9223372036854775807 := by have h1 := h.1; have h2 := h.2.1; unfold maxLen at h2; omega
  go_enter Try.func51, Try.ntmps51
  go_wp2
  go_loopw [8] (fun i W => ∃ k : Nat, k ≤ xs.length ∧ i = .int .i64 k ∧ (xs.take k).any p = false ∧ Below w.heap.size w W) (fun i _ => xs.length - (intOf i).toNat)
  case atStart => exact ⟨0, Nat.zero_le _, rfl, by simp, Below.refl _ _⟩
  case round =>
    obtain ⟨k, hk, rfl, hf, hb⟩ := hrel
    by_cases hlt : k < xs.length
    · have HS := Lib.hid hf; clear hf
      have hlt' : (k : Int) < (xs.length : Int) := by omega
      obtain ⟨a, cs, rfl, hl, hr⟩ := (h.below hb).at (List.getElem?_eq_getElem hlt)
      have hcall := hp k hlt wr cs hb hr
      obtain ⟨X, y, rfl, hrr⟩ := hr
      have f0 := hl.c0
      simp only [show kRow.sz = 1 from rfl, Nat.mul_one] at f0
      simp only [one, List.headD_cons] at hcall
      clear hl h hp hrr
      generalize hy : xs[k] = y at hcall f0
      have HY := Lib.hid hy; clear hy
      cases hq : p y with
      | true =>
        rw [hq] at hcall
        go_wp2_with (go_at_fn g; refine hcall.mono ?_; rintro e w' ⟨rfl, hb'⟩)
        go_ret
        exact ⟨ret_int (idx_yes hlt (by rw [HY.out]; exact hq) HS.out).symm, by repeat (first | assumption | exact Below.refl _ _ | (refine below_trans ?_ (by assumption)) | apply below_alloc | apply below_drewN | apply Below.drew)⟩
      | false =>
        rw [hq] at hcall
        go_wp2_with (go_at_fn g; refine hcall.mono ?_; rintro e w' ⟨rfl, hb'⟩)
        exact ⟨⟨k + 1, hlt, by go_num, by rw [any_take_succ hlt, HS.out, HY.out, hq]; rfl, by repeat (first | assumption | exact Below.refl _ _ | (refine below_trans ?_ (by assumption)) | apply below_alloc | apply below_drewN | apply Below.drew)⟩, by simp [intOf]; omega⟩
    · have HF := Lib.hid hf; clear hf
      go_wp2
      go_ret
      exact ⟨ret_int (idx_none (by have := HF.out; rwa [List.take_of_length_le (by omega)] at this)).symm, by repeat (first | assumption | exact Below.refl _ _ | (refine below_trans ?_ (by assumption)) | apply below_alloc | apply below_drewN | apply Below.drew)⟩
theorem containsFunc_row (g : Nat) (cb : Array Value) (eg : ∀ args w, (callFunc g args).run Try.prog w = .ok (.enter g args) w) (p : List Int → Bool) (xs : List (List Int)) (A : Option Addr) (c : Nat) (w : World) (h : RdS kRow w A c xs) (hp : Tells kRow g cb p w xs one) :
    Calls Try.prog 27 #[.slice A xs.length c, .func (.func g) #[] cb] w fun e w' => e = .returned (.bool (xs.any p)) ∧ Below w.heap.size w w' := by
  rw [← idx_ge]
  go_enter Try.func27, Try.ntmps27
  go_wp2_with (go_at_call 51; refine (indexFunc_row g cb eg p xs A c _ h hp).mono ?_; rintro e w' ⟨rfl, hb⟩)
  go_ret
  exact ⟨rfl, hb⟩
/-- How many numbers rows hold together. -/
def sumL (xs : List (List Int)) : Nat := (xs.map List.length).sum
theorem sumL_take (xs : List (List Int)) (k : Nat) (hk : k < xs.length) : sumL (xs.take (k + 1)) = sumL (xs.take k) + xs[k].length := totL_take List.length xs k hk
theorem sumL_le (xs : List (List Int)) (k : Nat) : sumL (xs.take k) ≤ sumL xs := totL_le List.length xs k
theorem sumL_flat : ∀ xs : List (List Int), xs.flatten.length = sumL xs
  | [] => rfl
  | x :: xs => by rw [List.flatten_cons, List.length_append, sumL_flat xs]; simp [sumL]
def badRow (c : List Int) : Bool := !wi c.length 1 20
def joinX (xs : List (List Int)) : SIntsResult :=
  if 300 < xs.length ∨ 300 < sumL xs then ⟨2, []⟩ else if xs.any badRow then ⟨1, []⟩ else ⟨0, xs.flatten⟩
/-- What a call lays that answers so. -/
def LaidIR (x : SIntsResult) (w : World) (r : Ending) (w' : World) : Prop := ∃ A c f, r = .returned (.agg #[.int .i64 x.Code, .slice A x.List.length c]) ∧ OwnS kInt 2 w.heap.size w' f (.slice A x.List.length c) x.List ∧ f.Nodup ∧ Below w.heap.size w w'
theorem LaidIR.bad {w w' : World} (k : Int) (hb : Below w.heap.size w w') : LaidIR ⟨k, []⟩ w (.returned (.agg #[.int .i64 k, .slice none 0 0])) w' :=
  ⟨none, 0, [], rfl, ownS_nil _ _ _, List.nodup_nil, hb⟩
set_option maxRecDepth 100000 in
set_option maxHeartbeats 1000000 in
theorem badRow_c (x : List Int) (A : Option Addr) (c : Nat) (w : World) (hx : x.length ≤ 9223372036854775807) : Calls Try.prog 28 #[.slice A x.length c] w fun e w' => e = .returned (.bool (badRow x)) ∧ Below w.heap.size w w' := by
  go_enter Try.func28, Try.ntmps28
  go_wp2_with (go_at_call 29; (with_reducible refine (within_c _ _ _ _).mono ?_); rintro e w' ⟨rfl, rfl⟩)
  go_ret
  exact ⟨rfl, Below.refl _ _⟩
/-- A row of numbers that a call laid. -/
def LaidInts (xs : List Int) (w : World) (r : Ending) (w' : World) : Prop := ∃ A c f, r = .returned (.slice A xs.length c) ∧ OwnS kInt 2 w.heap.size w' f (.slice A xs.length c) xs ∧ f.Nodup ∧ Below w.heap.size w w'
theorem grow_run {α : Type} {d : Kd α} {P : Program} {t tn e : TypeId} (ht : P.underlying t = some (.slice e)) (htn : P.underlying tn = some (.int .i64)) (hr : rowOf P e d.sz = true) (hs : 0 < d.sz) (k : Nat) (h0 : 0 < k) (hk : k ≤ 1000000) (ty : TypeId) (w : World) :
    ∃ w' c, (Builtin.append_ #[t, tn] ty #[.slice none 0 0, .int .i64 (k : Int)]).run P w = .ok (.slice (some ⟨w.heap.size, 0, none⟩) k c) w' ∧ k ≤ c ∧ c ≤ maxLen ∧ OwnS d e w.heap.size w' [w.heap.size] (.slice (some ⟨w.heap.size, 0, none⟩) 0 c) [] ∧ Below w.heap.size w w' := by
  unfold rowOf at hr
  split at hr
  rotate_left
  · cases hr
  rename_i i hi
  split at hr
  rotate_left
  · cases hr
  rename_i z hz
  simp only [Bool.and_eq_true, beq_iff_eq, decide_eq_true_eq] at hr
  obtain ⟨⟨h1, h2⟩, h3⟩ := hr
  have hb : k * i.bytes ≤ 140737488355328 := Nat.le_trans (Nat.mul_le_mul_left _ h3) (by omega)
  have h := Lib.run_append_grow_zeros w t tn ty e i z .i64 .i64 ht htn hi hz none 0 0 [] (run_firstCells_none w.drew _ _ _ _) k h0 (by omega) (by omega) (by omega) (by omega) (growslice_fits (by omega) (by rw [Nat.zero_add]; exact hb))
  simp only [Nat.zero_add] at h
  have hge := grownCap_ge w k 0 e
  have hcm : grownCap w k 0 e ≤ maxLen := grownCap_le_maxLen w k 0 e (by unfold maxLen; omega)
  refine ⟨_, _, h, hge, hcm, .inl ⟨[], [], by simp [Value.ownBlock], ⟨by simp, .inr ⟨w.heap.size, _, _, rfl, Nat.le_refl _, heap_alloc_new w.drew _, Nat.zero_le _, hcm, ?_, by simp⟩⟩, ⟨rfl, rfl⟩⟩, below_alloc (Below.refl _ _).drew _⟩
  have e : k + (grownCap w k 0 e - k) = grownCap w k 0 e := by omega
  simp only [Array.size_append, List.size_toArray, size_zeroCells, h1, List.length_nil, Nat.zero_add]
  rw [← Nat.add_mul, e]
set_option maxRecDepth 100000 in
set_option maxHeartbeats 1000000 in
/-- Grow of nothing: a fresh row without elements, with room. -/
theorem grow_c (n : Nat) (w : World) (hn : n ≤ 1000000) : Calls Try.prog 52 #[.slice none 0 0, .int .i64 n] w fun e w' => LaidInts [] w e w' := by
  by_cases h0 : n = 0
  · subst h0
    go_enter Try.func52, Try.ntmps52
    go_wp2_with fail
    go_ret
    exact ⟨none, 0, [], rfl, ownS_nil _ _ _, List.nodup_nil, Below.refl _ _⟩
  · have h1 : ¬ ((n : Int) < 0) := by omega
    have h4 : (0 : Int) < (n : Int) := by omega
    have hr := fun ty => grow_run (d := kInt) (P := Try.prog) (t := 24) (tn := 3) (e := 2) (by kernel_rfl) (by kernel_rfl) (by kernel_rfl) (by decide) n (by omega) hn ty w
    obtain ⟨w', c, hr, hc, hc2, ho, hb⟩ := hr 24
    have hc3 : c ≤ 9223372036854775807 := by unfold maxLen at hc2; omega
    go_enter Try.func52, Try.ntmps52
    go_wp2_with (at_builtin; refine Lib.wpList_append_run _ rfl _ _ _ _ rfl _ _ rfl rfl _ _ hr ?_)
    all_goals (go_ret; exact ⟨_, c, _, rfl, ho, by simp, hb⟩)
set_option maxRecDepth 100000 in
set_option maxHeartbeats 2000000 in
theorem concat_c (xs : List (List Int)) (A : Option Addr) (c : Nat) (w : World) (h : RdS kRow w A c xs) (hn : sumL xs ≤ 300) :
    Calls Try.prog 30 #[.slice A xs.length c] w fun e w' => LaidInts xs.flatten w e w' := by
  have hln := h.le63
  go_enter Try.func30, Try.ntmps30
  go_wp2_with fail
  go_loopw [3, 11] (fun q i W => ∃ k : Nat, k ≤ xs.length ∧ i = .int .i64 k ∧ q = .int .i64 (sumL (xs.take k)) ∧ W = w) (fun _ i _ => xs.length - (intOf i).toNat)
  case atStart => exact ⟨0, Nat.zero_le _, rfl, rfl, rfl⟩
  case round =>
    obtain ⟨k, hk, rfl, rfl, rfl⟩ := hrel
    by_cases hlt : k < xs.length
    · have hlt' : (k : Int) < (xs.length : Int) := by omega
      have hst := sumL_take xs k hlt
      have hsl := sumL_le xs (k + 1)
      obtain ⟨a, ea, hx⟩ := h.at_ hlt
      subst ea
      simp only [show kRow.sz = 1 from rfl, Nat.mul_one] at hx
      generalize xs[k] = x at hx hst
      obtain ⟨X, y, f0, hq⟩ := atRow hx
      have hd : ¬ ((sumL (xs.take k) : Int) + (x.length : Int) < 0) := by omega
      have HST := Lib.hid hst
      have h300 : sumL (xs.take k) + x.length ≤ 300 := by omega
      clear hst hsl
      go_wp2_with fail
      exact ⟨⟨k + 1, hlt, by go_num, by rw [HST.out]; simp, by first | rfl | trivial⟩, by simp [intOf]; omega⟩
    · have hk' : k = xs.length := by omega
      subst hk'
      rw [List.take_length]
      go_wp2_with fail
      obtain ⟨w9, hw9⟩ : ∃ W, W = wr := ⟨_, rfl⟩
      subst hw9
      refine (grow_c (sumL xs) w9 (by omega)).mono ?_
      rintro e w1 ⟨G, y, f, rfl, ow, nd, hb1⟩
      go_wp2_with fail
      go_loopw [6, 27] (fun q i W => ∃ k : Nat, k ≤ xs.length ∧ i = .int .i64 k ∧ ∃ G y f, q = .slice G (xs.take k).flatten.length y ∧ OwnS kInt 2 w9.heap.size W f (.slice G (xs.take k).flatten.length y) (xs.take k).flatten ∧ f.Nodup ∧ Below w9.heap.size w9 W) (fun _ i _ => xs.length - (intOf i).toNat)
      case atStart => exact ⟨0, Nat.zero_le _, rfl, G, y, f, rfl, ow, nd, hb1⟩
      case round =>
        clear ow nd hb1
        obtain ⟨k, hk, rfl, G, y, f, rfl, ow, nd, hb⟩ := hrel
        by_cases hlt : k < xs.length
        · have hlt' : (k : Int) < (xs.length : Int) := by omega
          have hst := sumL_take xs k hlt
          have hsl := sumL_le xs (k + 1)
          have hfl := sumL_flat (xs.take k)
          have hfe : (xs.take (k + 1)).flatten = (xs.take k).flatten ++ xs[k] := by rw [List.take_succ_eq_append_getElem hlt, List.flatten_append, List.flatten_singleton]
          obtain ⟨a, ea, hx⟩ := (h.below hb).at_ hlt
          subst ea
          simp only [show kRow.sz = 1 from rfl, Nat.mul_one] at hx
          generalize xs[k] = x at hx hst hfe
          obtain ⟨X, z, f0, hq⟩ := atRow hx
          have hle : (xs.take k).flatten.length + x.length ≤ 300 := by omega
          have HF := Lib.hid hfe
          clear hst hsl hfl hfe hx
          go_wp2_with (refine wpList_appFlat (d := kInt) (zs := x) rfl (.tmp 31) (.tmp 32) 24 2 rfl (by kernel_rfl) (by kernel_rfl) flat_int (by simp [Act.eval, Act.put]) (by simp [Act.eval, Act.put]) ow nd hq (by omega) hb.size ?_; intro v' w' fp' hgr; obtain ⟨g1, g2, g3, g4⟩ := hgr; obtain ⟨AA, cA, rfl, _⟩ := g1.form; rw [← HF.out] at g1)
          have bb : Below w9.heap.size w9 w' := hb.trans (g3.below (B := w9.heap.size) (fun y hy => (ow.in y hy).1) hb.size)
          refine ⟨⟨k + 1, hlt, by go_num, AA, cA, fp', ?_, g1, g2, bb⟩, by simp [intOf]; omega⟩
          rw [HF.out]
          simp [List.length_flatten, List.length_append]
        · have hk' : k = xs.length := by omega
          subst hk'
          rw [List.take_length] at ow ⊢
          go_wp2_with fail
          go_ret
          exact ⟨G, y, f, rfl, ow, nd, hb⟩
end Go.Proofs.Ytnbenhkbcodlfaa
