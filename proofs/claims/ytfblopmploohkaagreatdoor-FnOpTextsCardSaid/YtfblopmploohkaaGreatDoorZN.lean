/- The library's slices.Sort at whole numbers: its contract's ground, laid (printed by mksort.py, own work). -/
import Derived.Shelf.SortM.Plain
import Derived.Ground.SlgmProg
import Derived.Test.YtfblopmploohkaaGreatDoorProg
import Derived.Test.YtfblopmploohkaaGreatDoorZJ
import Derived.Sort.OwnSortedInts
set_option linter.unusedVariables false
namespace Go.Proofs.YtfblopmploohkaaGreatDoor
open Go Go.Shelf Go.Proofs
def sortL_ren : Go.Shelf.Ren := ⟨fun | 5 => 168 | 8 => 186 | 7 => 185 | 19 => 216 | 20 => 151 | 10 => 207 | 11 => 208 | 12 => 209 | 13 => 210 | 14 => 211 | 15 => 212 | 16 => 213 | 17 => 214 | 18 => 215 | 30 => 229 | 31 => 230 | 32 => 231 | 33 => 232 | 34 => 233 | 35 => 183 | 40 => 247 | n => n, fun | 23 => 54 | 25 => 2 | 3 => 3 | 32 => 170 | 22 => 54 | 0 => 0 | 44 => 206 | 46 => 160 | 4 => 4 | 36 => 273 | 35 => 272 | 41 => 234 | 5 => 5 | 9 => 9 | 53 => 291 | 57 => 295 | 63 => 312 | 64 => 313 | n => n, fun | n => n⟩
theorem sortL : Go.Proofs.SlLaysM.n5 Tryz.prog sortL_ren := {
  mixed := by kernel_rfl,
  f5 := ⟨Tryz.f168.name, by decide, Tryz.func168.trans (congrArg some (by kernel_rfl))⟩,
  f7 := ⟨Tryz.f185.name, by decide, Tryz.func185.trans (congrArg some (by kernel_rfl))⟩,
  f8 := Tryz.func186.trans (congrArg some (by kernel_rfl)),
  f10 := ⟨Tryz.f207.name, by decide, Tryz.func207.trans (congrArg some (by kernel_rfl))⟩,
  f11 := ⟨Tryz.f208.name, by decide, Tryz.func208.trans (congrArg some (by kernel_rfl))⟩,
  f12 := ⟨Tryz.f209.name, by decide, Tryz.func209.trans (congrArg some (by kernel_rfl))⟩,
  f13 := ⟨Tryz.f210.name, by decide, Tryz.func210.trans (congrArg some (by kernel_rfl))⟩,
  f14 := ⟨Tryz.f211.name, by decide, Tryz.func211.trans (congrArg some (by kernel_rfl))⟩,
  f15 := ⟨Tryz.f212.name, by decide, Tryz.func212.trans (congrArg some (by kernel_rfl))⟩,
  f16 := ⟨Tryz.f213.name, by decide, Tryz.func213.trans (congrArg some (by kernel_rfl))⟩,
  f17 := ⟨Tryz.f214.name, by decide, Tryz.func214.trans (congrArg some (by kernel_rfl))⟩,
  f18 := ⟨Tryz.f215.name, by decide, Tryz.func215.trans (congrArg some (by kernel_rfl))⟩,
  f19 := Tryz.func216.trans (congrArg some (by kernel_rfl)),
  f20 := Tryz.func151.trans (congrArg some (by kernel_rfl)),
  f30 := ⟨Tryz.f229.name, by decide, Tryz.func229.trans (congrArg some (by kernel_rfl))⟩,
  f31 := Tryz.func230.trans (congrArg some (by kernel_rfl)),
  f32 := Tryz.func231.trans (congrArg some (by kernel_rfl)),
  f33 := ⟨Tryz.f232.name, by decide, Tryz.func232.trans (congrArg some (by kernel_rfl))⟩,
  f34 := ⟨Tryz.f233.name, by decide, Tryz.func233.trans (congrArg some (by kernel_rfl))⟩,
  f35 := ⟨Tryz.f183.name, by decide, Tryz.func183.trans (congrArg some (by kernel_rfl))⟩,
  f40 := ⟨Tryz.f247.name, by decide, Tryz.func247.trans (congrArg some (by kernel_rfl))⟩,
  t0 := Tryz.underlying0,
  a0 := Tryz.isAgg0,
  z0 := Tryz.sizeOf0,
  v0 := Tryz.zeroValue0,
  t3 := Tryz.underlying3,
  a3 := Tryz.isAgg3,
  z3 := Tryz.sizeOf3,
  v3 := Tryz.zeroValue3,
  t4 := Tryz.underlying4,
  a4 := Tryz.isAgg4,
  z4 := Tryz.sizeOf4,
  v4 := Tryz.zeroValue4,
  t5 := Tryz.underlying5,
  a5 := Tryz.isAgg5,
  z5 := Tryz.sizeOf5,
  v5 := Tryz.zeroValue5,
  t9 := Tryz.underlying9,
  a9 := Tryz.isAgg9,
  z9 := Tryz.sizeOf9,
  v9 := Tryz.zeroValue9,
  t22 := Tryz.underlying54,
  a22 := Tryz.isAgg54,
  z22 := Tryz.sizeOf54,
  v22 := Tryz.zeroValue54,
  t23 := Tryz.underlying54,
  a23 := Tryz.isAgg54,
  z23 := Tryz.sizeOf54,
  v23 := Tryz.zeroValue54,
  t25 := Tryz.underlying2,
  a25 := Tryz.isAgg2,
  z25 := Tryz.sizeOf2,
  v25 := Tryz.zeroValue2,
  t32 := Tryz.underlying170,
  a32 := Tryz.isAgg170,
  z32 := Tryz.sizeOf170,
  v32 := Tryz.zeroValue170,
  t35 := Tryz.underlying272,
  a35 := Tryz.isAgg272,
  z35 := Tryz.sizeOf272,
  v35 := Tryz.zeroValue272,
  t36 := Tryz.underlying273,
  a36 := Tryz.isAgg273,
  z36 := Tryz.sizeOf273,
  v36 := Tryz.zeroValue273,
  t41 := Tryz.underlying234,
  a41 := Tryz.isAgg234,
  z41 := Tryz.sizeOf234,
  v41 := Tryz.zeroValue234,
  t44 := Tryz.underlying206,
  a44 := Tryz.isAgg206,
  z44 := Tryz.sizeOf206,
  v44 := Tryz.zeroValue206,
  t46 := Tryz.underlying160,
  a46 := Tryz.isAgg160,
  z46 := Tryz.sizeOf160,
  v46 := Tryz.zeroValue160,
  t53 := Tryz.underlying291,
  a53 := Tryz.isAgg291,
  z53 := Tryz.sizeOf291,
  v53 := Tryz.zeroValue291,
  t57 := Tryz.underlying295,
  a57 := Tryz.isAgg295,
  z57 := Tryz.sizeOf295,
  v57 := Tryz.zeroValue295,
  t63 := Tryz.underlying312,
  a63 := Tryz.isAgg312,
  z63 := Tryz.sizeOf312,
  v63 := Tryz.zeroValue312,
  t64 := Tryz.underlying313,
  a64 := Tryz.isAgg313,
  z64 := Tryz.sizeOf313,
  v64 := Tryz.zeroValue313 }
end Go.Proofs.YtfblopmploohkaaGreatDoor

/- What enough of some have: the middle of their sorted numbers is the greatest number that enough reach (own work; nothing of the program is named here). -/
namespace Mk
/-- The greatest number up to n that is so; 0 if none is. -/
def downTo (ok : Nat → Bool) : Nat → Nat
  | 0 => 0
  | k + 1 => if ok (k + 1) then k + 1 else downTo ok k
theorem downTo_le (ok : Nat → Bool) : ∀ n, downTo ok n ≤ n
  | 0 => Nat.le_refl _
  | k + 1 => by unfold downTo; split; exact Nat.le_refl _; exact Nat.le_succ_of_le (downTo_le ok k)
theorem downTo_eq {ok : Nat → Bool} {v : Nat} : ∀ n, v ≤ n → (∀ k, 1 ≤ k → k ≤ n → ok k = decide (k ≤ v)) → downTo ok n = v
  | 0, h, _ => by unfold downTo; omega
  | n + 1, h, hk => by
    unfold downTo
    rw [hk (n + 1) (by omega) (Nat.le_refl _)]
    by_cases hv : n + 1 ≤ v
    · rw [if_pos (decide_eq_true hv)]; omega
    · rw [if_neg (by simpa using hv)]
      exact downTo_eq n (by omega) (fun k h1 h2 => hk k h1 (by omega))
/-- How many of the first j have at least k, i itself being one. -/
def haveN (oks : List Int) (i : Nat) (k : Int) (j : Nat) : Nat := 1 + (List.range j).countP (fun m => m != i && decide (k ≤ oks.getD m 0))
theorem haveN_zero (oks : List Int) (i : Nat) (k : Int) : haveN oks i k 0 = 1 := rfl
theorem haveN_succ (oks : List Int) (i : Nat) (k : Int) (j : Nat) : haveN oks i k (j + 1) = haveN oks i k j + if (j != i && decide (k ≤ oks.getD j 0)) = true then 1 else 0 := by
  unfold haveN
  rw [List.range_succ, List.countP_append, List.countP_singleton]
  omega
theorem haveN_le (oks : List Int) (i : Nat) (k : Int) (j : Nat) : haveN oks i k j ≤ 1 + j := by
  unfold haveN
  have := List.countP_le_length (p := fun m => m != i && decide (k ≤ oks.getD m 0)) (l := List.range j)
  rw [List.length_range] at this
  omega
theorem count_or {i : Nat} {p : Nat → Bool} : ∀ s, (List.range s).countP (fun j => j == i || p j) = (if i < s then 1 else 0) + (List.range s).countP (fun j => j != i && p j)
  | 0 => by simp
  | s + 1 => by
    rw [List.range_succ, List.countP_append, List.countP_append, List.countP_singleton, List.countP_singleton, count_or s]
    by_cases h : s = i
    · subst h; simp; omega
    · have h1 : (s == i) = false := by simpa using h
      have h2 : (s != i) = true := by simpa using h
      have h3 : (i < s) ↔ (i < s + 1) := by omega
      simp only [h1, h2, Bool.false_or, Bool.true_and, h3]
      omega
theorem count_range {q : Int → Bool} (l : List Int) : l.countP q = (List.range l.length).countP (fun j => q (l.getD j 0)) := by
  have h : l = (List.range l.length).map (fun j => l.getD j 0) := by
    apply List.ext_getElem
    · simp
    · intro j h1 h2; simp [List.getElem?_eq_getElem h1]
  rw [← Function.comp_def q, ← List.countP_map, ← h]
theorem haveN_count {oks : List Int} {i : Nat} {len k : Int} (hi : i < oks.length) (hk : k ≤ len) : haveN oks i k oks.length = (oks.set i len).countP (fun x => decide (k ≤ x)) := by
  rw [count_range, List.length_set]
  unfold haveN
  have := count_or (i := i) (p := fun m => decide (k ≤ oks.getD m 0)) oks.length
  rw [if_pos hi] at this
  rw [← this]
  apply List.countP_congr
  intro j hj
  have hj' : j < oks.length := List.mem_range.1 hj
  by_cases h : j = i
  · subst h; simp [hj', hk]
  · have h1 : ¬ i = j := fun e => h e.symm
    simp [h, h1]
/-- In a sorted list those from a place on that is reached are all so. -/
theorem sorted_count {m : List Int} (hs : m.Pairwise (· ≤ ·)) {c : Nat} (hc : c < m.length) (k : Int) : (k ≤ m[c] → m.length - c ≤ m.countP (fun x => decide (k ≤ x))) ∧ (¬ k ≤ m[c] → m.countP (fun x => decide (k ≤ x)) ≤ m.length - (c + 1)) := by
  have hle : ∀ a b (ha : a < m.length) (hb : b < m.length), a ≤ b → m[a] ≤ m[b] := by
    intro a b ha hb hab
    rcases Nat.lt_or_eq_of_le hab with h | h
    · exact List.pairwise_iff_getElem.1 hs a b ha hb h
    · subst h; exact Int.le_refl _
  constructor
  · intro h
    have e : m = m.take c ++ m.drop c := (List.take_append_drop c m).symm
    have h2 : (m.drop c).countP (fun x => decide (k ≤ x)) = (m.drop c).length := by
      rw [List.countP_eq_length]
      intro x hx
      obtain ⟨j, hj, rfl⟩ := List.getElem_of_mem hx
      rw [List.getElem_drop]
      rw [List.length_drop] at hj
      exact decide_eq_true (Int.le_trans h (hle _ _ _ _ (by omega)))
    calc m.length - c = (m.drop c).length := by rw [List.length_drop]
      _ = (m.drop c).countP (fun x => decide (k ≤ x)) := h2.symm
      _ ≤ m.countP (fun x => decide (k ≤ x)) := (List.drop_sublist c m).countP_le
  · intro h
    have h2 : (m.take (c + 1)).countP (fun x => decide (k ≤ x)) = 0 := by
      rw [List.countP_eq_zero]
      intro x hx
      obtain ⟨j, hj, rfl⟩ := List.getElem_of_mem hx
      rw [List.getElem_take]
      rw [List.length_take] at hj
      have := hle j c (by omega) hc (by omega)
      simp; omega
    have h3 : m.countP (fun x => decide (k ≤ x)) = (m.take (c + 1)).countP (fun x => decide (k ≤ x)) + (m.drop (c + 1)).countP (fun x => decide (k ≤ x)) := by
      rw [← List.countP_append, List.take_append_drop]
    have h4 := List.countP_le_length (p := fun x => decide (k ≤ x)) (l := m.drop (c + 1))
    rw [List.length_drop] at h4
    omega
/-- Up to where enough are. -/
def agreedN (oks : List Int) (i len : Nat) : Nat := downTo (fun k => decide (oks.length / 2 + 1 ≤ haveN oks i k oks.length)) len
theorem agreedN_le (oks : List Int) (i len : Nat) : agreedN oks i len ≤ len := downTo_le _ _
theorem middle_eq {oks : List Int} {i len : Nat} (hi : i < oks.length) (h : ∀ x ∈ oks, 0 ≤ x ∧ x ≤ (len : Int)) :
    ((oks.set i (len : Int)).mergeSort (fun x y => decide (x ≤ y)))[(oks.length - 1) / 2]? = some (agreedN oks i len : Int) := by
  have hp := List.mergeSort_perm (oks.set i (len : Int)) (fun x y => decide (x ≤ y))
  have hs := List.pairwise_mergeSort (le := fun x y : Int => decide (x ≤ y)) (by intro a b c h1 h2; simp at *; omega) (by intro a b; simp; omega) (oks.set i (len : Int))
  generalize (oks.set i (len : Int)).mergeSort (fun x y => decide (x ≤ y)) = m at hp hs
  have hl : m.length = oks.length := by rw [hp.length_eq, List.length_set]
  have hs' : m.Pairwise (· ≤ ·) := hs.imp (fun h => by simpa using h)
  have hc : (oks.length - 1) / 2 < m.length := by omega
  rw [List.getElem?_eq_getElem hc]
  congr 1
  have hm := hp.mem_iff.1 (List.getElem_mem hc)
  have hb : 0 ≤ m[(oks.length - 1) / 2] ∧ m[(oks.length - 1) / 2] ≤ (len : Int) := by
    rcases List.mem_or_eq_of_mem_set hm with h1 | h1
    · exact h _ h1
    · omega
  have key : agreedN oks i len = m[(oks.length - 1) / 2].toNat := by
    refine downTo_eq _ (by omega) (fun k h1 h2 => ?_)
    rw [haveN_count (len := (len : Int)) hi (by omega), ← hp.countP_eq]
    have hsc := sorted_count hs' hc (k : Int)
    rw [hl] at hsc
    by_cases hk : (k : Int) ≤ m[(oks.length - 1) / 2]
    · have := hsc.1 hk
      rw [decide_eq_true (show oks.length / 2 + 1 ≤ _ by omega), decide_eq_true (by omega)]
    · have := hsc.2 hk
      rw [decide_eq_false (show ¬ oks.length / 2 + 1 ≤ _ by omega), decide_eq_false (by omega)]
  omega
end Mk

/- What enough nodes have: the program's agreed, by the library's slices.Sort (own work). -/
set_option linter.unusedVariables false
set_option linter.unusedSimpArgs false
namespace Go.Proofs.YtfblopmploohkaaGreatDoor
open Go Go.RowKit Mk
theorem sort_c (g cap : Nat) (xs : List Int) (po : List Value) (e : TypeId) (w : World) (hB : Blk w g e (xs.map (Value.int .i64) ++ po)) (hn : xs.length ≤ 1000000) :
    Calls Tryz.prog 168 #[.slice (some ⟨g, 0, none⟩) xs.length cap] w fun r w' => r = .returned (.tuple #[]) ∧ Blk w' g e ((xs.mergeSort fun x y => decide (x ≤ y)).map (Value.int .i64) ++ po) ∧ Turn [g] w w' := by
  have hb : w.heap[g]? = some (.cells (xs.map (Value.int .i64) ++ po).toArray e (0, 0)) := hB
  have hH := holds_of_blockI (ss := xs) hb (by simp)
  refine (Go.Proofs.AnyM.slices_Sort_int sortL g 0 cap xs w hH hB.lt (by omega)).mono ?_
  rintro r w' ⟨rfl, n, os, rfl⟩
  have hl : (xs.mergeSort fun x y => decide (x ≤ y)).length = xs.length := List.length_mergeSort _
  refine ⟨rfl, ?_, ?_⟩
  · unfold Blk
    rw [heap_sortedI _ hb]
    congr 2
    apply Array.ext'
    apply List.ext_getElem?
    intro j
    simp only [Sort.putCells, Array.toList_mapIdx, List.getElem?_mapIdx]
    by_cases hj : j < xs.length
    · rw [List.getElem?_append_left (by simp; omega), List.getElem?_append_left (by simp [hl]; omega)]
      simp [hj, hl]
    · rw [List.getElem?_append_right (by simp; omega), List.getElem?_append_right (by simp [hl]; omega)]
      simp [hj, hl]
  · obtain ⟨h1, h2, h3, h4, h5⟩ := grownBy_sortedI (w := w) (g := g) (n := n) (os := os) (xs.mergeSort fun x y => decide (x ≤ y)).toArray
    exact ⟨h1, h2, h3, h4, fun k hk hn => h5 k hk (fun he => hn (by cases he; simp))⟩
end Go.Proofs.YtfblopmploohkaaGreatDoor

/- The program's agreed and agree (own work). -/
set_option linter.unusedVariables false
set_option linter.unusedSimpArgs false
namespace Go.Proofs.YtfblopmploohkaaGreatDoor
open Go Go.RowKit Mk
theorem kInt_cells {B : Nat} {w : World} : ∀ {fp : List Nat} {cs : List Value} {xs : List Int}, OwnL kInt B w fp cs xs → cs = xs.map (Value.int .i64)
  | fp, cs, [], h => h.2
  | fp, cs, x :: xs, h => by
    obtain ⟨f1, f2, c1, c2, rfl, rfl, h1, h2⟩ := h
    rw [kInt_cells h2, h1.2]; rfl
/-- A row of whole numbers that is owned and not empty is a block known whole. -/
theorem ints_blk {e : TypeId} {B : Nat} {w : World} {fp : List Nat} {A : Option Addr} {n c : Nat} {xs : List Int} (h : OwnS kInt e B w fp (.slice A n c) xs) (hx : xs ≠ []) :
    ∃ g po, A = some ⟨g, 0, none⟩ ∧ n = xs.length ∧ B ≤ g ∧ Blk w g e (xs.map (Value.int .i64) ++ po) := by
  rcases h with ⟨fi, inner, rfl, ho, hl⟩ | ⟨_, h, _⟩
  rotate_left
  · exact absurd h hx
  obtain ⟨ho1, ho2⟩ := ho
  rcases ho2 with ⟨_, hn⟩ | ⟨g, cap, cur, hv, hg, hh, hc, hm, hs, ht⟩
  · exact absurd (List.length_eq_zero_iff.1 hn) hx
  injection hv with hA hn hcap
  subst hA; subst hn; subst hcap
  refine ⟨g, cur.toList.drop (xs.length * kInt.sz), rfl, rfl, hg, ?_⟩
  unfold Blk
  rw [hh, ← kInt_cells hl, ← ht, List.take_append_drop]
set_option maxRecDepth 100000 in
set_option maxHeartbeats 2000000 in
theorem agreed_c (i s : Nat) (oks : List Int) (logs : List SEntry) (A5 : Option Addr) (c5 : Nat) (A7 : Option Addr) (c7 : Nat) (p : Addr) (w : World) (h0 : w.cell? p = some (.int .i64 i)) (h1 : w.cell? ⟨p.block, p.off + 1, none⟩ = some (.int .i64 s))
    (h5 : w.cell? ⟨p.block, p.off + 5, none⟩ = some (.slice A5 logs.length c5)) (h7 : w.cell? ⟨p.block, p.off + 7, none⟩ = some (.slice A7 oks.length c7)) (r7 : RdS kInt w A7 c7 oks) (hl : oks.length = s) (hi : i < s) (hs : s ≤ 5) (hll : logs.length ≤ 1000) (hb : ∀ x ∈ oks, 0 ≤ x ∧ x ≤ logs.length) :
    Calls Tryz.prog 135 #[.pointer (some p)] w fun r w' => r = .returned (.int .i64 (agreedN oks i logs.length)) ∧ Below w.heap.size w w' := by
  have k0 := World.block_lt_of_cell? w _ h0
  have hmid := middle_eq (len := logs.length) (hl ▸ hi) hb
  have HL := Lib.hid hl
  have hi' : i < oks.length := hl ▸ hi
  have HM := Lib.hid hmid
  have hbx := Lib.hid hb
  clear hl hmid hb
  go_enter Tryz.func135, Tryz.ntmps135
  go_wp2_with fail
  refine (cloneInt64_c oks A7 c7 w r7 (by have := HL.out; omega)).mono ?_
  rintro r w1 ⟨B, d, f, rfl, o, nf, hb1⟩
  obtain ⟨g, po, eB, _, hg, K⟩ := ints_blk o (by intro h; rw [h] at hi'; simp at hi')
  subst eB
  have a0 := cell_below hb1 h0
  have a1 := cell_below hb1 h1
  have a5 := cell_below hb1 h5
  have kc : w1.cell? ⟨g, i, none⟩ = some (.int .i64 (oks[i]'hi')) := K.cell (by rw [List.getElem?_append_left (by simpa using hi')]; simp [List.getElem?_eq_getElem hi'])
  have kz := K.frozen i
  have hi2 : (i : Int) < (oks.length : Int) := by omega
  have H1 := Lib.hid h1
  clear h0 h1 h5 h7 r7 o
  go_upto_region 2 with fail
  go_cut [18] (fun _ W => Blk W g 2 ((oks.set i (logs.length : Int)).map (Value.int .i64) ++ po) ∧ Below w.heap.size w W)
  case first =>
    go_region_with (go_at_call 57; refine (many_c logs A5 c5 _).mono ?_; rintro e w2 ⟨rfl, rfl⟩)
    all_goals (go_wp2_with fail)
    all_goals (go_meet)
    all_goals
      refine ⟨?_, ?_⟩
      · have := K.set0 i (.int .i64 (logs.length : Int))
        rw [List.set_append_left _ _ (by simpa using hi'), ← List.map_set] at this
        exact Blk.keep this rfl
      · repeat (first | (with_reducible assumption) | (with_reducible exact Below.refl _ _) | (with_reducible apply below_alloc) | (with_reducible apply below_drewN) | (with_reducible apply Below.drew) | (with_reducible refine below_set ?_ (by dsimp only; omega) _) | (with_reducible refine below_trans ?_ (by assumption)))
  case rest =>
    obtain ⟨K2, b2⟩ := hcut
    have hsc := sort_c g d (oks.set i (logs.length : Int)) po 2 wc K2 (by rw [List.length_set]; have := HL.out; omega)
    rw [List.length_set] at hsc
    have HSC := Lib.hid hsc
    clear hsc K kc kz a0 a1 a5
    go_wp2_with fail
    refine HSC.out.mono ?_
    rintro r w3 ⟨rfl, K3, t3⟩
    have b3 : Below w.heap.size w w3 := b2.trans (t3.below (by simp; omega) b2.size)
    have a1 := cell_below b3 H1.out
    have kv : w3.cell? ⟨g, (s - 1) / 2, none⟩ = some (.int .i64 (agreedN oks i logs.length)) := by
      refine K3.cell ?_
      have hm := HM.out
      rw [HL.out] at hm
      have hlt := (List.getElem?_eq_some_iff.1 hm).1
      rw [List.getElem?_append_left (by simpa using hlt), List.getElem?_map, hm]; rfl
    have hidx : (((s - 1) / 2 : Nat) : Int) < (oks.length : Int) := by rw [HL.out]; omega
    clear K2 K3 t3 HSC hbx hi2 hi'
    have hcs : s = 1 ∨ s = 2 ∨ s = 3 ∨ s = 4 ∨ s = 5 := by omega
    rcases hcs with rfl | rfl | rfl | rfl | rfl
    all_goals (simp only [Nat.reduceSub, Nat.reduceDiv] at kv hidx)
    all_goals (go_wp2_with fail)
    all_goals (go_ret)
    all_goals (exact ⟨rfl, b3⟩)
set_option maxRecDepth 100000 in
set_option maxHeartbeats 2000000 in
theorem agree_c (b i s : Nat) (cm : Int) (c2 c3 c4 c8 c9 : Value) (oks : List Int) (logs : List SEntry) (A5 : Option Addr) (c5 : Nat) (A7 : Option Addr) (c7 : Nat) (e : TypeId) (w : World) (hB : Blk w b e [.int .i64 i, .int .i64 s, c2, c3, c4, .slice A5 logs.length c5, .int .i64 cm, .slice A7 oks.length c7, c8, c9])
    (r7 : RdS kInt w A7 c7 oks) (hl : oks.length = s) (hi : i < s) (hs : s ≤ 5) (hll : logs.length ≤ 1000) (hb : ∀ x ∈ oks, 0 ≤ x ∧ x ≤ logs.length) :
    Calls Tryz.prog 100 #[.pointer (some ⟨b, 0, none⟩)] w fun r w' => r = .returned (.tuple #[]) ∧ Blk w' b e [.int .i64 i, .int .i64 s, c2, c3, c4, .slice A5 logs.length c5, .int .i64 (max cm (agreedN oks i logs.length)), .slice A7 oks.length c7, c8, c9] ∧ Turn [b] w w' := by
  have q0 := hB.cell (j := 0) rfl
  have q1 := hB.cell (j := 1) rfl
  have q5 := hB.cell (j := 5) rfl
  have q7 := hB.cell (j := 7) rfl
  have HA := Lib.hid (fun (W : World) (hW : Below w.heap.size w W) => agreed_c i s oks logs A5 c5 A7 c7 ⟨b, 0, none⟩ W (cell_below hW q0) (by simpa using cell_below hW q1) (by simpa using cell_below hW q5) (by simpa using cell_below hW q7) (r7.below hW) hl hi hs hll hb)
  clear q0 q1 q5 q7 r7 hl hb
  have q6 := hB.cell (j := 6) rfl
  have lb := hB.lt
  go_enter Tryz.func100, Tryz.ntmps100
  go_region_with (go_at_call 135; refine (HA.out _ (by repeat (first | (with_reducible assumption) | (with_reducible exact Below.refl _ _) | (with_reducible apply below_alloc) | (with_reducible apply below_drewN) | (with_reducible apply Below.drew) | (with_reducible refine below_set ?_ (by dsimp only; omega) _) | (with_reducible refine below_trans ?_ (by assumption))))).mono ?_; rintro r w2 ⟨rfl, hb2⟩; have b2 : Below w.heap.size w w2 := below_trans (Below.refl _ _).drew hb2; have K2 := hB.below b2; have p6 := K2.cell (j := 6) rfl; have z6 := K2.frozen 6)
  all_goals (go_wp2_with fail)
  all_goals (refine bodyPost_end (v := .tuple #[]) (by simp [results, Tryz.results100, go_sem]) rfl ⟨rfl, ?_, ?_⟩)
  all_goals first
    | exact Blk.keep (K2.set0 6 (.int .i64 (max cm (agreedN oks i logs.length)))) rfl
    | exact ((Turn.of_below b2).set (p := ⟨b, 6, none⟩) (by simp) _)
    | exact ((Turn.of_below b2).set (p := ⟨b, 6, none⟩) (by simp) _).drew
end Go.Proofs.YtfblopmploohkaaGreatDoor
