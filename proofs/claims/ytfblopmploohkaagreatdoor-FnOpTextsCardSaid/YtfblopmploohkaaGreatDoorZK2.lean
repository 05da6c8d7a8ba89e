/- A row that is owned, all its elements known at once, each in blocks of its own (own work; nothing of the program is named here). -/
import Derived.Test.YtfblopmploohkaaGreatDoorZW
set_option linter.unusedVariables false
set_option linter.unusedSimpArgs false
namespace Mk
open Go Go.RowKit
section
variable {α : Type} {d : Kd α} {e : TypeId} {B : Nat} {w w' : World}
/-- The blocks of each element, apart from one another. -/
structure Apart (F : Nat → List Nat) (fp : List Nat) : Prop where
  nd : ∀ j, (F j).Nodup
  sub : ∀ j, ∀ b ∈ F j, b ∈ fp
  dis : ∀ i j, i ≠ j → ∀ b ∈ F i, b ∉ F j
theorem OwnL.fam : ∀ {fp : List Nat} {cs : List Value} {xs : List α}, OwnL d B w fp cs xs → fp.Nodup →
    ∃ F : Nat → List Nat, (∀ j x, xs[j]? = some x → ∃ c1 ce c2, cs = c1 ++ ce ++ c2 ∧ c1.length = j * d.sz ∧ d.Own B w (F j) ce x) ∧ Apart F fp
  | fp, cs, [], h, _ => ⟨fun _ => [], (fun j x hx => by simp at hx), ⟨fun _ => List.nodup_nil, (fun _ b hb => by cases hb), (fun _ _ _ b hb => by cases hb)⟩⟩
  | fp, cs, y :: ys, h, nd => by
    obtain ⟨f1, f2, c1, c2, rfl, rfl, h1, h2⟩ := h
    obtain ⟨n1, n2, n12⟩ := List.nodup_append.1 nd
    obtain ⟨F, hF, hA⟩ := OwnL.fam h2 n2
    refine ⟨fun j => match j with | 0 => f1 | j + 1 => F j, ?_, ?_, ?_, ?_⟩
    · intro j x hx
      cases j with
      | zero => simp at hx; subst hx; exact ⟨[], c1, c2, by simp, by simp, h1⟩
      | succ j =>
        obtain ⟨a, b, c, hc, hl, ho⟩ := hF j x (by simpa using hx)
        exact ⟨c1 ++ a, b, c, by rw [hc]; simp, by rw [List.length_append, d.rd_len (d.own_rd h1), hl, Nat.add_mul, Nat.one_mul, Nat.add_comm], ho⟩
    · intro j; cases j with
      | zero => exact n1
      | succ j => exact hA.nd j
    · intro j b hb; cases j with
      | zero => exact List.mem_append_left _ hb
      | succ j => exact List.mem_append_right _ (hA.sub j b hb)
    · intro i j hij b hb hb'
      cases i with
      | zero => cases j with
        | zero => exact hij rfl
        | succ j => exact n12 b hb b (hA.sub j b hb') rfl
      | succ i => cases j with
        | zero => exact n12 b hb' b (hA.sub i b hb) rfl
        | succ j => exact hA.dis i j (by omega) b hb hb'
theorem OwnS.fam {fp : List Nat} {A : Option Addr} {n c : Nat} {xs : List α} (h : OwnS d e B w fp (.slice A n c) xs) (nd : fp.Nodup) :
    ∃ F : Nat → List Nat, (∀ j x, xs[j]? = some x → ∃ g c1 ce c2, A = some ⟨g, 0, none⟩ ∧ g ∈ fp ∧ (∀ i, g ∉ F i) ∧ Blk w g e (c1 ++ ce ++ c2) ∧ c1.length = j * d.sz ∧ d.Own B w (F j) ce x) ∧ Apart F fp := by
  rcases h with ⟨fi, inner, rfl, ho, hl⟩ | ⟨rfl, rfl, _⟩
  rotate_left
  · exact ⟨fun _ => [], (fun j x hx => by simp at hx), ⟨fun _ => List.nodup_nil, (fun _ b hb => by cases hb), (fun _ _ _ b hb => by cases hb)⟩⟩
  obtain ⟨F, hF, hA⟩ := OwnL.fam hl (List.nodup_append.1 nd).2.1
  refine ⟨F, ?_, ⟨hA.nd, fun j b hb => List.mem_append_right _ (hA.sub j b hb), hA.dis⟩⟩
  intro j x hx
  obtain ⟨c1, ce, c2, rfl, hc, hO⟩ := hF j x hx
  obtain ⟨ho1, ho2⟩ := ho
  rcases ho2 with ⟨_, hn⟩ | ⟨g, cap, cur, hv, hg, hh, hc', hm, hs, ht⟩
  · have := (List.getElem?_eq_some_iff.1 hx).1; omega
  injection hv with hA' hn hcap
  subst hA'
  have hcur : cur = (c1 ++ ce ++ (c2 ++ cur.toList.drop (xs.length * d.sz))).toArray := by
    apply Array.ext'
    have := List.take_append_drop (xs.length * d.sz) cur.toList
    rw [ht] at this
    exact this.symm.trans (by simp only [List.append_assoc])
  exact ⟨g, c1, ce, c2 ++ cur.toList.drop (xs.length * d.sz), rfl, by simp [Value.ownBlock], fun i hi => (List.nodup_append.1 nd).2.2 g (by simp [Value.ownBlock]) g (hA.sub i g hi) rfl, by unfold Blk; rw [← hcur]; exact hh, hc, hO⟩
end
/-- Elements that were taken one by one from a row into another one: what the other one's blocks are. -/
def From (f1 : List Nat) (F : Nat → List Nat) (k m : Nat) (y : Nat) : Prop := y ∈ f1 ∨ (∃ i, i < k ∧ y ∈ F i) ∨ m ≤ y
/-- The blocks that may have turned while elements are taken. -/
def Took (b : Nat) (f1 : List Nat) (F : Nat → List Nat) (k : Nat) : List Nat := b :: (f1 ++ (List.range k).flatMap F)
theorem mem_took {b : Nat} {f1 : List Nat} {F : Nat → List Nat} {k y : Nat} : y ∈ Took b f1 F k ↔ y = b ∨ y ∈ f1 ∨ ∃ i, i < k ∧ y ∈ F i := by
  simp only [Took, List.mem_cons, List.mem_append, List.mem_flatMap, List.mem_range]
theorem took_mono {b : Nat} {f1 : List Nat} {F : Nat → List Nat} {k : Nat} (y : Nat) (h : y ∈ Took b f1 F k) : y ∈ Took b f1 F (k + 1) := by
  rw [mem_took] at h ⊢
  rcases h with h | h | ⟨i, hi, h⟩
  · exact .inl h
  · exact .inr (.inl h)
  · exact .inr (.inr ⟨i, by omega, h⟩)
theorem take_min_succ {α : Type} (xs : List α) (k c : Nat) (h : k < xs.length) (hc : k < c) : xs.take (min (k + 1) c) = xs.take (min k c) ++ [xs[k]] := by
  rw [Nat.min_eq_left (by omega), Nat.min_eq_left (by omega), List.take_succ_eq_append_getElem h]
theorem take_min_full {α : Type} (xs : List α) (k c : Nat) (hc : ¬ k < c) : xs.take (min (k + 1) c) = xs.take (min k c) := by
  rw [Nat.min_eq_right (by omega), Nat.min_eq_right (by omega)]
end Mk
