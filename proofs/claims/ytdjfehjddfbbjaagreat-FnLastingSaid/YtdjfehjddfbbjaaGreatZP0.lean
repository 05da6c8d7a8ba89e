/- A row that is owned, taken as what is appended: its elements with all that they own (own work; nothing of the program is named here). -/
import Derived.Test.YtdjfehjddfbbjaaGreatZW
set_option linter.unusedVariables false
set_option linter.unusedSimpArgs false
namespace Mk
open Go Go.RowKit
theorem OwnS.src {P : Program} {α : Type} {d : Kd α} {e e' t : TypeId} {B : Nat} {w : World} {fs : List Nat} {A : Option Addr} {n c : Nat} {xs : List α} (h : OwnS d e B w fs (.slice A n c) xs) (nd : fs.Nodup) (ht : P.underlying t = some (.slice e')) :
    n = xs.length ∧ ∃ ce fi, Src P d.sz t (.slice A n c) xs.length ce w ∧ OwnL d B w fi ce xs ∧ fi.Nodup ∧ ∀ y ∈ fi, y ∈ fs := by
  rcases h with ⟨fi, inner, rfl, ho, hl⟩ | ⟨rfl, rfl, A', hv⟩
  · obtain ⟨ho1, ho2⟩ := ho
    have nfi := (List.nodup_append.1 nd).2.1
    rcases ho2 with ⟨hv, hn⟩ | ⟨g, cap, cur, hv, hg, hh, hc, hm, hs, htk⟩
    · injection hv with hA hn' hc'
      subst hA; subst hn'; subst hc'
      have hx : xs = [] := List.length_eq_zero_iff.1 hn
      subst hx
      obtain ⟨rfl, rfl⟩ := hl
      exact ⟨rfl, [], [], Src.ofNil w ht 0, ⟨rfl, rfl⟩, List.nodup_nil, fun y hy => by cases hy⟩
    · injection hv with hA hn' hc'
      subst hA; subst hn'; subst hc'
      refine ⟨rfl, inner, fi, Src.ofSlice w ht ⟨g, 0, none⟩ xs.length _ inner ho1 ?_ (RdL.one hl.rd), hl, nfi, fun y hy => List.mem_append_right _ hy⟩
      intro j u hu
      have hadd : (⟨g, 0, none⟩ : Addr).add j = ⟨g, j, none⟩ := by unfold Addr.add; split <;> simp_all
      rw [hadd, cell_of_row w g j cur e (0, 0) hh]
      rw [← htk, List.getElem?_take] at hu
      split at hu
      · simpa using hu
      · cases hu
  · injection hv with hA hn' hc'
    subst hA; subst hn'; subst hc'
    cases A with
    | none => exact ⟨rfl, [], [], Src.ofNil w ht 0, ⟨rfl, rfl⟩, List.nodup_nil, fun y hy => by cases hy⟩
    | some a => exact ⟨rfl, [], [], Src.ofSlice w ht a 0 0 [] (by simp) (fun j u hu => by simp at hu) (fun u hu => by cases hu), ⟨rfl, rfl⟩, List.nodup_nil, fun y hy => by cases hy⟩
theorem Turn.under {fp fp1 : List Nat} {w w1 w2 : World} {b : Nat} (h : Turn (b :: fp) w w1) (k : Turn (b :: fp1) w1 w2) (hf : ∀ y ∈ fp1, y ∈ fp ∨ w.heap.size ≤ y) : Turn (b :: fp) w w2 :=
  h.fresh k (fun y hy => by
    rcases List.mem_cons.1 hy with h | h
    · exact .inl (by simp [h])
    · rcases hf y h with h | h
      · exact .inl (by simp [h])
      · exact .inr h)
theorem getD_at {α : Type} (ds : List α) (z : α) {k : Nat} (h : k < ds.length) : ds.getD k z = ds[k] := by rw [List.getD_eq_getElem?_getD, List.getElem?_eq_getElem h, Option.getD_some]
end Mk
