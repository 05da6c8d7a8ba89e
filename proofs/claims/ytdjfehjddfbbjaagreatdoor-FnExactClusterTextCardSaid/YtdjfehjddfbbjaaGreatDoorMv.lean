/- Memory that is written: blocks known whole, rows opened at one element and shut again, what a call may have turned (own work; nothing of the program is named here). -/
import Derived.Test.YtdjfehjddfbbjaaGreatDoorRo
set_option linter.unusedVariables false
set_option linter.unusedSimpArgs false
namespace Mk
open Go Go.RowKit
/-- The block g holds the cells l. -/
def Blk (w : World) (g : Nat) (e : TypeId) (l : List Value) : Prop := w.heap[g]? = some (.cells l.toArray e (0, 0))
section
variable {w w' : World} {g o j : Nat} {e : TypeId} {l c1 c2 ce : List Value} {u v : Value}
theorem Blk.lt (h : Blk w g e l) : g < w.heap.size := (Array.getElem?_eq_some_iff.1 h).1
theorem Blk.keep (h : Blk w g e l) (hk : w'.heap[g]? = w.heap[g]?) : Blk w' g e l := hk.trans h
theorem Blk.frozen (h : Blk w g e l) (o : Nat) : w.frozen? ⟨g, o, none⟩ = false := by
  have h' : w.heap[g]? = some (.cells l.toArray e (0, 0)) := h
  simp [World.frozen?, h']
theorem Blk.cell (h : Blk w g e l) (hu : l[j]? = some u) : w.cell? ⟨g, j, none⟩ = some u := by
  rw [cell_of_row w g j l.toArray e (0, 0) h]; simpa using hu
theorem Blk.mid (h : Blk w g e (c1 ++ ce ++ c2)) (ho : c1.length = o) (hu : ce[j]? = some u) : w.cell? ⟨g, o + j, none⟩ = some u := by
  refine h.cell ?_
  have hj := (List.getElem?_eq_some_iff.1 hu).1
  rw [List.append_assoc, List.getElem?_append_right (by omega), ← ho, Nat.add_sub_cancel_left, List.getElem?_append_left hj]
  exact hu
theorem Blk.set (h : Blk w g e (c1 ++ ce ++ c2)) (ho : c1.length = o) (hj : j < ce.length) (v : Value) : Blk (w.setCell ⟨g, o + j, none⟩ v) g e (c1 ++ ce.set j v ++ c2) := by
  have h' : w.heap[g]? = some (.cells (c1 ++ ce ++ c2).toArray e (0, 0)) := h
  unfold Blk
  simp only [World.setCell, Array.getElem?_modify, h', Option.map_some, if_pos, Option.isSome_none, Bool.false_eq_true, if_false]
  congr 2
  apply Array.ext'
  simp only [Array.toList_setIfInBounds]
  rw [List.append_assoc, List.set_append_right _ _ (by omega), ← ho, Nat.add_sub_cancel_left, List.set_append_left _ _ hj, List.append_assoc]
theorem Blk.set0 (h : Blk w g e l) (j : Nat) (v : Value) : Blk (w.setCell ⟨g, j, none⟩ v) g e (l.set j v) := by
  have h' : w.heap[g]? = some (.cells l.toArray e (0, 0)) := h
  unfold Blk
  simp only [World.setCell, Array.getElem?_modify, h', Option.map_some, if_pos, Option.isSome_none, Bool.false_eq_true, if_false]
  congr 2
  apply Array.ext'
  simp
theorem Blk.set_ne (h : Blk w g e l) {a : Addr} (ha : a.block ≠ g) (v : Value) : Blk (w.setCell a v) g e l := h.keep (Below.heap_setCell w a v g (fun e => ha e.symm))
theorem Blk.below (h : Blk w g e l) (hb : Below w.heap.size w w') : Blk w' g e l := h.keep (hb.block g h.lt)
theorem blk_alloc (w : World) (l : List Value) (e : TypeId) : Blk (w.alloc (.cells l.toArray e)) w.heap.size e l := heap_alloc_new w _
theorem Blk.lies (h : Blk w g e l) : Lies w ⟨g, 0, none⟩ l := by
  intro j u hu
  have hadd : (⟨g, 0, none⟩ : Addr).add j = ⟨g, j, none⟩ := by unfold Addr.add; split <;> simp_all
  rw [hadd]; exact h.cell hu
theorem Blk.liesMid (h : Blk w g e (c1 ++ ce ++ c2)) (ho : c1.length = o) : Lies w ⟨g, o, none⟩ ce := by
  intro j u hu
  have hadd : (⟨g, o, none⟩ : Addr).add j = ⟨g, o + j, none⟩ := by unfold Addr.add; split <;> simp_all
  rw [hadd]; exact h.mid ho hu
end

/-- Only the blocks fp may have turned; new ones may have come. -/
structure Turn (fp : List Nat) (w w' : World) : Prop where
  os : w'.os = w.os
  tape : w'.tape = w.tape
  output : w'.output = w.output
  size : w.heap.size ≤ w'.heap.size
  block : ∀ k, k < w.heap.size → k ∉ fp → w'.heap[k]? = w.heap[k]?
section
variable {fp fq : List Nat} {a w w' w1 : World} {B : Nat}
theorem Turn.refl (fp : List Nat) (w : World) : Turn fp w w := ⟨rfl, rfl, rfl, Nat.le_refl _, fun _ _ _ => rfl⟩
theorem Turn.trans (h : Turn fp a w) (k : Turn fp w w1) : Turn fp a w1 :=
  ⟨k.os.trans h.os, k.tape.trans h.tape, k.output.trans h.output, Nat.le_trans h.size k.size, fun i hi hn => (k.block i (Nat.lt_of_lt_of_le hi h.size) hn).trans (h.block i hi hn)⟩
theorem Turn.mono (h : Turn fp a w) (hs : ∀ b ∈ fp, b ∈ fq) : Turn fq a w := ⟨h.os, h.tape, h.output, h.size, fun i hi hn => h.block i hi (fun hm => hn (hs i hm))⟩
theorem Turn.of_below (h : Below w.heap.size w w1) : Turn fp w w1 := ⟨h.os, h.tape, h.output, h.size, fun k hk _ => h.block k hk⟩
theorem Turn.below (h : Turn fp a w) (hB : ∀ b ∈ fp, B ≤ b) (hs : B ≤ a.heap.size) : Below B a w := ⟨h.os, h.tape, h.output, h.size, fun k hk => h.block k (by omega) (fun hm => by have := hB k hm; omega)⟩
theorem Turn.set (h : Turn fp a w) {p : Addr} (hp : p.block ∈ fp) (v : Value) : Turn fp a (w.setCell p v) :=
  h.trans ⟨rfl, rfl, rfl, by simp [World.setCell], fun k hk hn => Below.heap_setCell _ _ _ _ (fun e => hn (e ▸ hp))⟩
theorem Turn.alloc (h : Turn fp a w) (o : Obj) : Turn fp a (w.alloc o) := h.trans (Turn.of_below (below_alloc (Below.refl _ _) o))
theorem Turn.drew (h : Turn fp a w) : Turn fp a w.drew := ⟨h.os, h.tape, h.output, h.size, h.block⟩
/-- Blocks that were laid behind a are nobody's concern. -/
theorem Turn.fresh (h : Turn fp a w) (k : Turn fq w w1) (hq : ∀ b ∈ fq, b ∈ fp ∨ a.heap.size ≤ b) : Turn fp a w1 :=
  ⟨k.os.trans h.os, k.tape.trans h.tape, k.output.trans h.output, Nat.le_trans h.size k.size, fun i hi hn => (k.block i (Nat.lt_of_lt_of_le hi h.size) (fun hm => (hq i hm).elim hn (fun h1 => by omega))).trans (h.block i hi hn)⟩
end
theorem Blk.turn {w w' : World} {g : Nat} {e : TypeId} {l : List Value} {fq : List Nat} (h : Blk w g e l) (ht : Turn fq w w') (hd : g ∉ fq) : Blk w' g e l := h.keep (ht.block g h.lt hd)
theorem OwnS.turn {α : Type} {d : Kd α} {e : TypeId} {B : Nat} {w w' : World} {fp fq : List Nat} {v : Value} {xs : List α} (h : OwnS d e B w fp v xs) (ht : Turn fq w w') (hd : ∀ b ∈ fp, b ∉ fq) : OwnS d e B w' fp v xs :=
  OwnS.keep h (fun b hb => ht.block b (h.in b hb).2 (hd b hb))

section
variable {α : Type} {d : Kd α} {e : TypeId} {B : Nat} {w w' : World} {fp : List Nat} {v : Value} {xs ys : List α} {x : α} {A : Option Addr} {n c : Nat}
theorem OwnL.split1 : ∀ {fp : List Nat} {cs : List Value} (xs : List α) {x : α} {ys : List α}, OwnL d B w fp cs (xs ++ x :: ys) →
    ∃ f1 fe f2 c1 ce c2, fp = f1 ++ (fe ++ f2) ∧ cs = c1 ++ (ce ++ c2) ∧ OwnL d B w f1 c1 xs ∧ d.Own B w fe ce x ∧ OwnL d B w f2 c2 ys
  | fp, cs, [], x, ys, h => by obtain ⟨f1, f2, c1, c2, rfl, rfl, h1, h2⟩ := h; exact ⟨[], f1, f2, [], c1, c2, rfl, rfl, ⟨rfl, rfl⟩, h1, h2⟩
  | fp, cs, y :: xs, x, ys, h => by
    obtain ⟨f1, f2, c1, c2, rfl, rfl, h1, h2⟩ := h
    obtain ⟨g1, ge, g2, e1, ee, e2, rfl, rfl, k1, k2, k3⟩ := OwnL.split1 xs h2
    exact ⟨f1 ++ g1, ge, g2, c1 ++ e1, ee, e2, by simp, by simp, ⟨f1, g1, c1, e1, rfl, rfl, h1, k1⟩, k2, k3⟩
/-- A row that is owned, opened at one element. -/
theorem OwnS.zoom (h : OwnS d e B w fp (.slice A n c) (xs ++ x :: ys)) (nd : fp.Nodup) :
    ∃ g fe f1 f2 c1 ce c2, A = some ⟨g, 0, none⟩ ∧ n = xs.length + 1 + ys.length ∧ fp = g :: (f1 ++ (fe ++ f2)) ∧ c1.length = xs.length * d.sz ∧ Blk w g e (c1 ++ ce ++ c2) ∧ d.Own B w fe ce x ∧
      (∀ (w' : World) (fe' : List Nat) (ce' : List Value) (x' : α), Blk w' g e (c1 ++ ce' ++ c2) → d.Own B w' fe' ce' x' → (∀ b, b ∈ f1 ∨ b ∈ f2 → w'.heap[b]? = w.heap[b]?) →
        OwnS d e B w' (g :: (f1 ++ (fe' ++ f2))) (.slice A n c) (xs ++ x' :: ys)) := by
  rcases h with ⟨fi, inner, rfl, ho, hl⟩ | ⟨_, hx, _⟩
  rotate_left
  · simp at hx
  obtain ⟨ho1, ho2⟩ := ho
  rcases ho2 with ⟨_, hn⟩ | ⟨g, cap, cur, hv, hg, hh, hc, hm, hs, ht⟩
  · simp at hn
  injection hv with hA hn hcap
  subst hA; subst hn; subst hcap
  obtain ⟨f1, fe, f2, c1, ce, c2, rfl, rfl, k1, k2, k3⟩ := OwnL.split1 xs hl
  have hlen : (xs ++ x :: ys).length = xs.length + 1 + ys.length := by simp; omega
  have hc1 : c1.length = xs.length * d.sz := RdL.len k1.rd
  have hce : ce.length = d.sz := d.rd_len (d.own_rd k2)
  have hcur : cur = (c1 ++ ce ++ (c2 ++ cur.toList.drop ((xs ++ x :: ys).length * d.sz))).toArray := by
    apply Array.ext'
    have := List.take_append_drop ((xs ++ x :: ys).length * d.sz) cur.toList
    rw [ht] at this
    exact this.symm.trans (by simp only [List.append_assoc])
  refine ⟨g, fe, f1, f2, c1, ce, c2 ++ cur.toList.drop ((xs ++ x :: ys).length * d.sz), rfl, hlen, rfl, hc1, by unfold Blk; rw [← hcur]; exact hh, k2, ?_⟩
  intro w' fe' ce' x' hb hy hk
  have hce' : ce'.length = d.sz := d.rd_len (d.own_rd hy)
  have hall : c1.length + (ce.length + c2.length) = (xs ++ x :: ys).length * d.sz := by simpa using ho1
  refine .inl ⟨f1 ++ (fe' ++ f2), c1 ++ (ce' ++ c2), rfl, ⟨?_, .inr ⟨g, c, _, by simp, hg, hb, by simpa using hc, hm, ?_, ?_⟩⟩, ?_⟩
  · simp at hall ⊢; omega
  · have : (c1 ++ ce ++ (c2 ++ cur.toList.drop ((xs ++ x :: ys).length * d.sz))).toArray.size = c * d.sz := by rw [← hcur]; exact hs
    simp only [List.size_toArray, List.length_append] at this ⊢
    omega
  · have e1 : (xs ++ x' :: ys).length * d.sz = (c1 ++ (ce' ++ c2)).length := by simp at hall ⊢; omega
    rw [e1]
    simp only [List.append_assoc]
    rw [← List.append_assoc, ← List.append_assoc, ← List.append_assoc]
    exact List.take_left
  · exact OwnL.append (k1.keep (fun b hb' => hk b (.inl hb'))) ⟨fe', f2, ce', c2, rfl, rfl, hy, k3.keep (fun b hb' => hk b (.inr hb'))⟩
end
end Mk
