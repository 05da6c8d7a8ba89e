/- Memory that is written: blocks known whole, rows opened at one element and shut again, what a call may have turned (own work; nothing of the program is named here). -/
import Derived.Test.YtfblopmploohkaaGreatDoorZRo
import Derived.Deep.AppendSrc
import Derived.Deep.Upon
import Derived.Deep.RegionLaw
set_option linter.unusedVariables false
set_option linter.unusedSimpArgs false
namespace Mk
open Go Go.RowKit
/-- The block g holds the cells l. -/
def Blk (w : World) (g : Nat) (e : TypeId) (l : List Value) : Prop := w.heap[g]? = some (.cells l.toArray e (0, 0))
section
variable {w w' : World} {g o j : Nat} {e : TypeId} {l c1 c2 ce : List Value} {u v : Value}
theorem Blk.lt (h : Blk w g e l) : g < w.heap.size := (Array.getElem?_eq_some_iff.1 h).1
theorem Blk.keep (h : Blk w g e l) (hk : w'.heap[g]? = w.heap[g]?) : Blk w' g e l := hk.trans h
theorem Blk.frozen (h : Blk w g e l) (o : Nat) : w.frozen? ⟨g, o, none⟩ = false := by
  have h' : w.heap[g]? = some (.cells l.toArray e (0, 0)) := h
  simp [World.frozen?, h']
theorem Blk.cell (h : Blk w g e l) (hu : l[j]? = some u) : w.cell? ⟨g, j, none⟩ = some u := by
  rw [cell_of_row w g j l.toArray e (0, 0) h]; simpa using hu
theorem Blk.mid (h : Blk w g e (c1 ++ ce ++ c2)) (ho : c1.length = o) (hu : ce[j]? = some u) : w.cell? ⟨g, o + j, none⟩ = some u := by
  refine h.cell ?_
  have hj := (List.getElem?_eq_some_iff.1 hu).1
  rw [List.append_assoc, List.getElem?_append_right (by omega), ← ho, Nat.add_sub_cancel_left, List.getElem?_append_left hj]
  exact hu
theorem Blk.set (h : Blk w g e (c1 ++ ce ++ c2)) (ho : c1.length = o) (hj : j < ce.length) (v : Value) : Blk (w.setCell ⟨g, o + j, none⟩ v) g e (c1 ++ ce.set j v ++ c2) := by
  have h' : w.heap[g]? = some (.cells (c1 ++ ce ++ c2).toArray e (0, 0)) := h
  unfold Blk
  simp only [World.setCell, Array.getElem?_modify, h', Option.map_some, if_pos, Option.isSome_none, Bool.false_eq_true, if_false]
  congr 2
  apply Array.ext'
  simp only [Array.toList_setIfInBounds]
  rw [List.append_assoc, List.set_append_right _ _ (by omega), ← ho, Nat.add_sub_cancel_left, List.set_append_left _ _ hj, List.append_assoc]
theorem Blk.set0 (h : Blk w g e l) (j : Nat) (v : Value) : Blk (w.setCell ⟨g, j, none⟩ v) g e (l.set j v) := by
  have h' : w.heap[g]? = some (.cells l.toArray e (0, 0)) := h
  unfold Blk
  simp only [World.setCell, Array.getElem?_modify, h', Option.map_some, if_pos, Option.isSome_none, Bool.false_eq_true, if_false]
  congr 2
  apply Array.ext'
  simp
theorem Blk.set_ne (h : Blk w g e l) {a : Addr} (ha : a.block ≠ g) (v : Value) : Blk (w.setCell a v) g e l := h.keep (Below.heap_setCell w a v g (fun e => ha e.symm))
theorem Blk.below (h : Blk w g e l) (hb : Below w.heap.size w w') : Blk w' g e l := h.keep (hb.block g h.lt)
theorem blk_alloc (w : World) (l : List Value) (e : TypeId) : Blk (w.alloc (.cells l.toArray e)) w.heap.size e l := heap_alloc_new w _
theorem Blk.lies (h : Blk w g e l) : Lies w ⟨g, 0, none⟩ l := by
  intro j u hu
  have hadd : (⟨g, 0, none⟩ : Addr).add j = ⟨g, j, none⟩ := by unfold Addr.add; split <;> simp_all
  rw [hadd]; exact h.cell hu
theorem Blk.liesMid (h : Blk w g e (c1 ++ ce ++ c2)) (ho : c1.length = o) : Lies w ⟨g, o, none⟩ ce := by
  intro j u hu
  have hadd : (⟨g, o, none⟩ : Addr).add j = ⟨g, o + j, none⟩ := by unfold Addr.add; split <;> simp_all
  rw [hadd]; exact h.mid ho hu
end

/-- Only the blocks fp may have turned; new ones may have come. -/
structure Turn (fp : List Nat) (w w' : World) : Prop where
  os : w'.os = w.os
  tape : w'.tape = w.tape
  output : w'.output = w.output
  size : w.heap.size ≤ w'.heap.size
  block : ∀ k, k < w.heap.size → k ∉ fp → w'.heap[k]? = w.heap[k]?
section
variable {fp fq : List Nat} {a w w' w1 : World} {B : Nat}
theorem Turn.refl (fp : List Nat) (w : World) : Turn fp w w := ⟨rfl, rfl, rfl, Nat.le_refl _, fun _ _ _ => rfl⟩
theorem Turn.trans (h : Turn fp a w) (k : Turn fp w w1) : Turn fp a w1 :=
  ⟨k.os.trans h.os, k.tape.trans h.tape, k.output.trans h.output, Nat.le_trans h.size k.size, fun i hi hn => (k.block i (Nat.lt_of_lt_of_le hi h.size) hn).trans (h.block i hi hn)⟩
theorem Turn.mono (h : Turn fp a w) (hs : ∀ b ∈ fp, b ∈ fq) : Turn fq a w := ⟨h.os, h.tape, h.output, h.size, fun i hi hn => h.block i hi (fun hm => hn (hs i hm))⟩
theorem Turn.of_below (h : Below w.heap.size w w1) : Turn fp w w1 := ⟨h.os, h.tape, h.output, h.size, fun k hk _ => h.block k hk⟩
theorem Turn.below (h : Turn fp a w) (hB : ∀ b ∈ fp, B ≤ b) (hs : B ≤ a.heap.size) : Below B a w := ⟨h.os, h.tape, h.output, h.size, fun k hk => h.block k (by omega) (fun hm => by have := hB k hm; omega)⟩
theorem Turn.set (h : Turn fp a w) {p : Addr} (hp : p.block ∈ fp) (v : Value) : Turn fp a (w.setCell p v) :=
  h.trans ⟨rfl, rfl, rfl, by simp [World.setCell], fun k hk hn => Below.heap_setCell _ _ _ _ (fun e => hn (e ▸ hp))⟩
theorem Turn.alloc (h : Turn fp a w) (o : Obj) : Turn fp a (w.alloc o) := h.trans (Turn.of_below (below_alloc (Below.refl _ _) o))
theorem Turn.drew (h : Turn fp a w) : Turn fp a w.drew := ⟨h.os, h.tape, h.output, h.size, h.block⟩
/-- Blocks that were laid behind a are nobody's concern. -/
theorem Turn.fresh (h : Turn fp a w) (k : Turn fq w w1) (hq : ∀ b ∈ fq, b ∈ fp ∨ a.heap.size ≤ b) : Turn fp a w1 :=
  ⟨k.os.trans h.os, k.tape.trans h.tape, k.output.trans h.output, Nat.le_trans h.size k.size, fun i hi hn => (k.block i (Nat.lt_of_lt_of_le hi h.size) (fun hm => (hq i hm).elim hn (fun h1 => by omega))).trans (h.block i hi hn)⟩
end
theorem Blk.turn {w w' : World} {g : Nat} {e : TypeId} {l : List Value} {fq : List Nat} (h : Blk w g e l) (ht : Turn fq w w') (hd : g ∉ fq) : Blk w' g e l := h.keep (ht.block g h.lt hd)
theorem OwnS.turn {α : Type} {d : Kd α} {e : TypeId} {B : Nat} {w w' : World} {fp fq : List Nat} {v : Value} {xs : List α} (h : OwnS d e B w fp v xs) (ht : Turn fq w w') (hd : ∀ b ∈ fp, b ∉ fq) : OwnS d e B w' fp v xs :=
  OwnS.keep h (fun b hb => ht.block b (h.in b hb).2 (hd b hb))

section
variable {α : Type} {d : Kd α} {e : TypeId} {B : Nat} {w w' : World} {fp : List Nat} {v : Value} {xs ys : List α} {x : α} {A : Option Addr} {n c : Nat}
theorem OwnL.split1 : ∀ {fp : List Nat} {cs : List Value} (xs : List α) {x : α} {ys : List α}, OwnL d B w fp cs (xs ++ x :: ys) →
    ∃ f1 fe f2 c1 ce c2, fp = f1 ++ (fe ++ f2) ∧ cs = c1 ++ (ce ++ c2) ∧ OwnL d B w f1 c1 xs ∧ d.Own B w fe ce x ∧ OwnL d B w f2 c2 ys
  | fp, cs, [], x, ys, h => by obtain ⟨f1, f2, c1, c2, rfl, rfl, h1, h2⟩ := h; exact ⟨[], f1, f2, [], c1, c2, rfl, rfl, ⟨rfl, rfl⟩, h1, h2⟩
  | fp, cs, y :: xs, x, ys, h => by
    obtain ⟨f1, f2, c1, c2, rfl, rfl, h1, h2⟩ := h
    obtain ⟨g1, ge, g2, e1, ee, e2, rfl, rfl, k1, k2, k3⟩ := OwnL.split1 xs h2
    exact ⟨f1 ++ g1, ge, g2, c1 ++ e1, ee, e2, by simp, by simp, ⟨f1, g1, c1, e1, rfl, rfl, h1, k1⟩, k2, k3⟩
/-- A row that is owned, opened at one element. -/
theorem OwnS.zoom (h : OwnS d e B w fp (.slice A n c) (xs ++ x :: ys)) (nd : fp.Nodup) :
    ∃ g fe f1 f2 c1 ce c2, A = some ⟨g, 0, none⟩ ∧ n = xs.length + 1 + ys.length ∧ fp = g :: (f1 ++ (fe ++ f2)) ∧ c1.length = xs.length * d.sz ∧ Blk w g e (c1 ++ ce ++ c2) ∧ d.Own B w fe ce x ∧
      (∀ (w' : World) (fe' : List Nat) (ce' : List Value) (x' : α), Blk w' g e (c1 ++ ce' ++ c2) → d.Own B w' fe' ce' x' → (∀ b, b ∈ f1 ∨ b ∈ f2 → w'.heap[b]? = w.heap[b]?) →
        OwnS d e B w' (g :: (f1 ++ (fe' ++ f2))) (.slice A n c) (xs ++ x' :: ys)) := by
  rcases h with ⟨fi, inner, rfl, ho, hl⟩ | ⟨_, hx, _⟩
  rotate_left
  · simp at hx
  obtain ⟨ho1, ho2⟩ := ho
  rcases ho2 with ⟨_, hn⟩ | ⟨g, cap, cur, hv, hg, hh, hc, hm, hs, ht⟩
  · simp at hn
  injection hv with hA hn hcap
  subst hA; subst hn; subst hcap
  obtain ⟨f1, fe, f2, c1, ce, c2, rfl, rfl, k1, k2, k3⟩ := OwnL.split1 xs hl
  have hlen : (xs ++ x :: ys).length = xs.length + 1 + ys.length := by simp; omega
  have hc1 : c1.length = xs.length * d.sz := RdL.len k1.rd
  have hce : ce.length = d.sz := d.rd_len (d.own_rd k2)
  have hcur : cur = (c1 ++ ce ++ (c2 ++ cur.toList.drop ((xs ++ x :: ys).length * d.sz))).toArray := by
    apply Array.ext'
    have := List.take_append_drop ((xs ++ x :: ys).length * d.sz) cur.toList
    rw [ht] at this
    exact this.symm.trans (by simp only [List.append_assoc])
  refine ⟨g, fe, f1, f2, c1, ce, c2 ++ cur.toList.drop ((xs ++ x :: ys).length * d.sz), rfl, hlen, rfl, hc1, by unfold Blk; rw [← hcur]; exact hh, k2, ?_⟩
  intro w' fe' ce' x' hb hy hk
  have hce' : ce'.length = d.sz := d.rd_len (d.own_rd hy)
  have hall : c1.length + (ce.length + c2.length) = (xs ++ x :: ys).length * d.sz := by simpa using ho1
  refine .inl ⟨f1 ++ (fe' ++ f2), c1 ++ (ce' ++ c2), rfl, ⟨?_, .inr ⟨g, c, _, by simp, hg, hb, by simpa using hc, hm, ?_, ?_⟩⟩, ?_⟩
  · simp at hall ⊢; omega
  · have : (c1 ++ ce ++ (c2 ++ cur.toList.drop ((xs ++ x :: ys).length * d.sz))).toArray.size = c * d.sz := by rw [← hcur]; exact hs
    simp only [List.size_toArray, List.length_append] at this ⊢
    omega
  · have e1 : (xs ++ x' :: ys).length * d.sz = (c1 ++ (ce' ++ c2)).length := by simp at hall ⊢; omega
    rw [e1]
    simp only [List.append_assoc]
    rw [← List.append_assoc, ← List.append_assoc, ← List.append_assoc]
    exact List.take_left
  · exact OwnL.append (k1.keep (fun b hb' => hk b (.inl hb'))) ⟨fe', f2, ce', c2, rfl, rfl, hy, k3.keep (fun b hb' => hk b (.inr hb'))⟩
end
end Mk

/- 'append' onto a row that is owned, of elements whose parts are owned (own work; nothing of the program is named here). -/
set_option linter.unusedVariables false
set_option linter.unusedSimpArgs false
namespace Mk
open Go Go.RowKit
/-- Elements of e lie in sz cells, of no more than a thousand bytes. -/
def rowOf (P : Program) (e : TypeId) (sz : Nat) : Bool :=
  match P.info? e with
  | some i => (match i.zero with | some z => z.cells.size == sz && i.size == sz && decide (i.bytes ≤ 1024) | none => false)
  | none => false
section
variable {P : Program} {t ty e : TypeId} {i : TypeInfo} {z : Value} {w : World} {base : Nat} {v x : Value} {n m : Nat} {xs news : List Value}
theorem append_row (ht : P.underlying t = some (.slice e)) (hi : P.info? e = some i) (hz : i.zero = some z) (hzs : z.cells.size = i.size) (hby : i.bytes ≤ 1024)
    (hown : w.ownsRow base e i.size v n xs) (hs : Src P i.size t x m news w) (hn : n + m ≤ 1073741824) (hbase : base ≤ w.heap.size) :
    ∃ v' w', (Builtin.append_ #[t, t] ty #[v, x]).run P w = .ok v' w' ∧ w'.ownsRow base e i.size v' (n + m) (xs ++ news) ∧ w.grownBy w' v.ownBlock ∧ (v'.ownBlock = v.ownBlock ∨ v'.ownBlock = some w.heap.size) := by
  have hml : n + m ≤ maxLen := by unfold maxLen; omega
  have hlen : (xs ++ news).length = (n + m) * i.size := by rw [List.length_append, hown.1, hs.newsLen, Nat.add_mul]
  have hbytes : (n + m) * i.bytes ≤ 140737488355328 := Nat.le_trans (Nat.mul_le_mul_left _ hby) (by omega)
  have grown : ∀ (A : Option Addr) (old : Nat), v = .slice A n old → old < n + m → (Builtin.firstCells i.size n v).run P w.drew = .ok xs.toArray w.drew →
      ∃ v' w', (Builtin.append_ #[t, t] ty #[v, x]).run P w = .ok v' w' ∧ w'.ownsRow base e i.size v' (n + m) (xs ++ news) ∧ w.grownBy w' v.ownBlock ∧ (v'.ownBlock = v.ownBlock ∨ v'.ownBlock = some w.heap.size) := by
    intro A old hv ho hold
    have hge := grownCap_ge w (n + m) old e
    have hcm : grownCap w (n + m) old e ≤ maxLen := grownCap_le_maxLen w (n + m) old e hml
    subst hv
    refine ⟨_, _, run_append_grow_src (P := P) w t t ty e i z ht hi hz A n old xs hold x m news hs ho (by omega) (growslice_fits ho hbytes), ⟨hlen, .inr ⟨w.heap.size, _, _, rfl, hbase, heap_alloc_new w.drew _, hge, hcm, ?_, ?_⟩⟩, ⟨rfl, rfl, rfl, by simp, fun k hk _ => Below.heap_alloc w.drew _ k hk⟩, .inr rfl⟩
    · simp only [Array.size_append, List.size_toArray, size_zeroCells, hzs, hlen, ← Nat.add_mul]
      congr 1
      omega
    · simp only [Array.toList_append]
      rw [← hlen]
      exact List.take_left
  rcases hown.2 with ⟨rfl, rfl⟩ | ⟨g, cap, cur, rfl, hbg, hg, hnc, hcm, hcs, htake⟩
  · have hx : xs = [] := List.eq_nil_of_length_eq_zero (by simpa using hown.1)
    subst hx
    by_cases hm : m = 0
    · subst hm
      have hnn : news = [] := List.eq_nil_of_length_eq_zero (by simpa using hs.newsLen)
      subst hnn
      exact ⟨_, w, run_append_nothing w t t ty e i ht hi none 0 0 (Nat.le_refl _) x hs, World.ownsRow_nil w base e i.size, ⟨rfl, rfl, rfl, Nat.le_refl _, fun _ _ _ => rfl⟩, .inl rfl⟩
    · exact grown none 0 rfl (by omega) (run_firstCells_none w.drew _ _ _ _)
  · by_cases hroom : n + m ≤ cap
    · have hfit : n * i.size + news.length ≤ cur.size := by rw [hs.newsLen, hcs, ← Nat.add_mul]; exact Nat.mul_le_mul_right _ hroom
      have hcell : ∀ j, j < news.length → (w.cell? ⟨g, 0 + n * i.size + j, none⟩).isSome = true := by
        intro j hj
        rw [cell_of_row w g _ cur e (0, 0) hg, Array.getElem?_eq_getElem (by omega)]; rfl
      have hr := run_append_room_src (P := P) w t t ty e i ht hi g 0 n cap x m news hs hroom hcell (fun j _ => by simp [World.frozen?, hg])
      rw [Nat.zero_add] at hr
      obtain ⟨cur', k1, k2, k3⟩ := sets_here g e news (n * i.size) w cur hg hfit
      refine ⟨_, _, hr, ⟨hlen, .inr ⟨g, cap, cur', rfl, hbg, k1, hroom, hcm, by rw [k2, hcs], ?_⟩⟩, ?_, .inl rfl⟩
      · rw [k3, htake, ← hlen]
        exact List.take_left
      · have hb : Below w.heap.size w w := Below.refl _ _
        refine ⟨?_, ?_, ?_, by rw [sets_size]; exact Nat.le_refl _, fun k _ hk => sets_block g news _ w k (fun e => hk (by simp [Value.ownBlock, e]))⟩
        · exact (below_sets (B := 0) (Nat.zero_le _) news (n * i.size) w (Below.refl 0 w)).os
        · exact (below_sets (B := 0) (Nat.zero_le _) news (n * i.size) w (Below.refl 0 w)).tape
        · exact (below_sets (B := 0) (Nat.zero_le _) news (n * i.size) w (Below.refl 0 w)).output
    · have holds : ∀ j u, xs[j]? = some u → w.cell? ((⟨g, 0, none⟩ : Addr).add j) = some u := hown.cells (g := g) rfl
      exact grown (some ⟨g, 0, none⟩) cap rfl (by omega) (run_firstCells_some w.drew i.size n ⟨g, 0, none⟩ n cap xs hown.1 (by simpa using holds))
end
section
variable {α : Type} {d : Kd α} {P : Program} {t ty e : TypeId} {w : World} {B : Nat} {fp fs : List Nat} {v x : Value} {ys zs : List α} {ce : List Value}
/-- An empty row that was laid right now. -/
theorem ownS_empty (d : Kd α) (w : World) (e : TypeId) (hB : B ≤ w.heap.size) : OwnS d e B (w.alloc (.cells #[] e)) [w.heap.size] (.slice (some ⟨w.heap.size, 0, none⟩) 0 0) [] :=
  .inl ⟨[], [], rfl, ⟨by simp, .inr ⟨w.heap.size, 0, #[], rfl, hB, heap_alloc_new w _, Nat.le_refl _, Nat.zero_le _, by simp, by simp⟩⟩, ⟨rfl, rfl⟩⟩
theorem ownS_nil (d : Kd α) (w : World) (e : TypeId) : OwnS d e B w [] (.slice none 0 0) [] := .inl ⟨[], [], rfl, World.ownsRow_nil w B e d.sz, ⟨rfl, rfl⟩⟩
/-- What an append leaves. -/
def Grew (d : Kd α) (e : TypeId) (B : Nat) (w : World) (fp fs : List Nat) (v' : Value) (w' : World) (fp' : List Nat) (xs : List α) : Prop :=
  OwnS d e B w' fp' v' xs ∧ fp'.Nodup ∧ Turn fp w w' ∧ ∀ b ∈ fp', b ∈ fp ∨ b ∈ fs ∨ w.heap.size ≤ b
theorem append_owns (ht : P.underlying t = some (.slice e)) (hr : rowOf P e d.sz = true) (h : OwnS d e B w fp v ys) (nd : fp.Nodup) (hs : Src P d.sz t x zs.length ce w) (hl : OwnL d B w fs ce zs) (nfs : fs.Nodup) (hd : ∀ b ∈ fp, b ∉ fs)
    (hn : ys.length + zs.length ≤ 1073741824) (hB : B ≤ w.heap.size) :
    ∃ v' w' fp', (Builtin.append_ #[t, t] ty #[v, x]).run P w = .ok v' w' ∧ Grew d e B w fp fs v' w' fp' (ys ++ zs) := by
  unfold rowOf at hr
  split at hr
  rotate_left
  · cases hr
  rename_i i hi
  split at hr
  rotate_left
  · cases hr
  rename_i z hz
  simp only [Bool.and_eq_true, beq_iff_eq, decide_eq_true_eq] at hr
  obtain ⟨⟨h1, h2⟩, h3⟩ := hr
  have hfs := hl.in
  rcases h with ⟨fi, inner, rfl, ho, hli⟩ | ⟨rfl, rfl, A, rfl⟩
  · rw [← h2] at ho hs
    obtain ⟨v', w', hrun, hrow, hg, hb⟩ := append_row (ty := ty) ht hi hz (by rw [h1, h2]) h3 ho hs hn hB
    have hfi := hli.in
    have hne : ∀ b, b ∈ fi ∨ b ∈ fs → some b ≠ v.ownBlock := by
      intro b hb e
      rcases hb with hb | hb
      · exact (List.nodup_append.1 nd).2.2 b (mem_toList.2 e.symm) b hb rfl
      · exact hd b (List.mem_append_left _ (mem_toList.2 e.symm)) hb
    have hkeep : ∀ b, b ∈ fi ∨ b ∈ fs → w'.heap[b]? = w.heap[b]? := fun b hb => hg.block b (hb.elim (fun h => (hfi b h).2) (fun h => (hfs b h).2)) (hne b hb)
    rw [h2] at hrow
    refine ⟨v', w', v'.ownBlock.toList ++ (fi ++ fs), hrun, .inl ⟨fi ++ fs, inner ++ ce, rfl, ?_, OwnL.append (hli.keep (fun b hb => hkeep b (.inl hb))) (hl.keep (fun b hb => hkeep b (.inr hb)))⟩, ?_, ⟨hg.os, hg.tape, hg.output, hg.size, fun k hk hn => hg.block k hk (fun e => hn (List.mem_append_left _ (mem_toList.2 e.symm)))⟩, ?_⟩
    · rw [List.length_append]; exact hrow
    · have n1 : (fi ++ fs).Nodup := List.nodup_append.2 ⟨(List.nodup_append.1 nd).2.1, nfs, fun a ha b hb e => hd a (List.mem_append_right _ ha) (e ▸ hb)⟩
      rcases hb with hb | hb
      · rw [hb]
        refine List.nodup_append.2 ⟨(List.nodup_append.1 nd).1, n1, fun a ha b hb e => ?_⟩
        exact hne b (List.mem_append.1 hb) (by rw [← e]; exact (mem_toList.1 ha).symm)
      · rw [hb]
        refine List.nodup_append.2 ⟨by simp, n1, fun a ha b hb e => ?_⟩
        simp at ha
        have : b < w.heap.size := (List.mem_append.1 hb).elim (fun h => (hfi b h).2) (fun h => (hfs b h).2)
        omega
    · intro b hb'
      rcases List.mem_append.1 hb' with h | h
      · rcases hb with hb | hb
        · rw [hb] at h; exact .inl (List.mem_append_left _ h)
        · rw [hb] at h; simp at h; exact .inr (.inr (by omega))
      · rcases List.mem_append.1 h with h | h
        · exact .inl (List.mem_append_right _ h)
        · exact .inr (.inl h)
  · by_cases hm : zs = []
    · subst hm
      have hce : ce = [] := hl.2
      subst hce
      rw [← h2] at hs
      exact ⟨_, w, [], run_append_nothing w t t ty e i ht hi A 0 0 (Nat.le_refl _) x hs, .inr ⟨rfl, rfl, A, rfl⟩, List.nodup_nil, Turn.refl _ _, fun b hb => by cases hb⟩
    · have hpos : 0 < zs.length := List.length_pos_iff.2 hm
      have hold : (Builtin.firstCells i.size 0 (.slice A 0 0)).run P w.drew = .ok #[] w.drew := by
        cases A with
        | none => exact run_firstCells_none w.drew _ _ _ _
        | some a => exact run_firstCells_some w.drew i.size 0 a 0 0 [] (by simp) (fun j u hu => by simp at hu)
      rw [← h2] at hs
      simp only [List.length_nil] at hn
      have hrun := run_append_grow_src (P := P) w t t ty e i z ht hi hz A 0 0 [] hold x zs.length ce hs (by omega) (by omega) (growslice_fits (by omega) (Nat.le_trans (Nat.mul_le_mul_left _ h3) (by omega)))
      have hge := grownCap_ge w (0 + zs.length) 0 e
      have hcm : grownCap w (0 + zs.length) 0 e ≤ maxLen := grownCap_le_maxLen w (0 + zs.length) 0 e (by unfold maxLen; omega)
      refine ⟨_, _, w.heap.size :: fs, hrun, .inl ⟨fs, ce, by simp [Value.ownBlock], ⟨by rw [hs.newsLen]; simp [h2], .inr ⟨w.heap.size, _, _, by simp, hB, heap_alloc_new w.drew _, by simpa using hge, hcm, ?_, ?_⟩⟩, ?_⟩, ?_, ?_, ?_⟩
      · have := hs.newsLen
        simp only [List.nil_append, Array.size_append, List.size_toArray, size_zeroCells, h1, this, h2, ← Nat.add_mul]
        congr 1
        omega
      · simp only [List.nil_append, Array.toList_append]
        rw [show zs.length * d.sz = ce.length by rw [hs.newsLen, h2]]
        exact List.take_left
      · exact hl.keep (fun b hb => Below.heap_alloc w.drew _ b (hfs b hb).2)
      · exact List.nodup_cons.2 ⟨fun hb => by have := (hfs _ hb).2; omega, nfs⟩
      · exact ⟨rfl, rfl, rfl, by simp, fun k hk _ => Below.heap_alloc w.drew _ k hk⟩
      · intro b hb
        rcases List.mem_cons.1 hb with h | h
        · exact .inr (.inr (by omega))
        · exact .inr (.inl h)
theorem wpList_app {ops : Array Oper} {rest : List Oper} {o : Oper} {a : Act} {Q : Exit → Act → World → Prop} (hgd : o.guard = none) (s y : Operand) (t e : TypeId)
    (ho : o.op = .call { callee := .builtin .append, args := #[s, y], argTypes := #[t, t] }) (ht : P.underlying t = some (.slice e)) (hr : rowOf P e d.sz = true)
    (hv : a.eval s = v) (hx : a.eval y = x) (h : OwnS d e B w fp v ys) (nd : fp.Nodup) (hs : Src P d.sz t x zs.length ce w) (hl : OwnL d B w fs ce zs) (nfs : fs.Nodup) (hd : ∀ b ∈ fp, b ∉ fs)
    (hn : ys.length + zs.length ≤ 1073741824) (hB : B ≤ w.heap.size)
    (k : ∀ v' w' fp', Grew d e B w fp fs v' w' fp' (ys ++ zs) → wpList P ops Q rest (a.put o.dst v') w') : wpList P ops Q (o :: rest) a w := by
  refine wpList_plain hgd fun K hK => ?_
  obtain ⟨v', w', fp', hrun, hg⟩ := append_owns (ty := o.type) ht hr h nd hs hl nfs hd hn hB
  unfold Oper.wp execOp
  simp only [ho, resolve, invoke, builtin, Sem.run_bind, Sem.run_pure, Result.andThen_ok, List.map_toArray, List.map_cons, List.map_nil, hv, hx, hrun]
  exact hK _ _ (k v' w' fp' hg)
/-- Kinds whose values lead nowhere. -/
def Flat (d : Kd α) : Prop := ∀ (w : World) (cs : List Value) (x : α) (B : Nat), d.Rd w cs x → d.Own B w [] cs x
theorem Flat.row (hf : Flat d) : ∀ {cs : List Value} {xs : List α}, RdL d w cs xs → OwnL d B w [] cs xs
  | cs, [], h => ⟨rfl, h⟩
  | cs, x :: xs, h => by obtain ⟨c1, c2, rfl, h1, h2⟩ := h; exact ⟨[], [], c1, c2, rfl, rfl, hf _ _ _ _ h1, Flat.row hf h2⟩
theorem flat_int : Flat kInt := fun _ _ _ _ h => ⟨rfl, h⟩
theorem flat_bool : Flat kBool := fun _ _ _ _ h => ⟨rfl, h⟩
theorem flat_pair {β : Type} {a : Kd α} {b : Kd β} (ha : Flat a) (hb : Flat b) : Flat (pair a b) := fun _ _ _ _ ⟨c1, c2, e, h1, h2⟩ => ⟨[], [], c1, c2, rfl, e, ha _ _ _ _ h1, hb _ _ _ _ h2⟩
theorem flat_iso {β : Type} {a : Kd α} (f : β → α) (ha : Flat a) : Flat (iso a f) := fun _ _ _ _ h => ha _ _ _ _ h
/-- What a slice yields that is read. -/
theorem RdS.src {A : Option Addr} {c : Nat} {xs : List α} {e' : TypeId} (h : RdS d w A c xs) (ht : P.underlying t = some (.slice e')) : ∃ ce, Src P d.sz t (.slice A xs.length c) xs.length ce w ∧ RdL d w ce xs := by
  obtain ⟨h1, h2, cells, h3, h4⟩ := h
  by_cases hx : xs = []
  · subst hx
    have hc : cells = [] := h3
    subst hc
    cases A with
    | none => exact ⟨[], Src.ofNil w ht c, rfl⟩
    | some a => exact ⟨[], Src.ofSlice w ht a 0 c [] (by simp) (fun j u hu => by simp at hu) (fun u hu => by cases hu), rfl⟩
  · obtain ⟨a, rfl, l⟩ := h4 hx
    exact ⟨cells, Src.ofSlice w ht a xs.length c cells h3.len l h3.one, h3⟩
/-- A copy of a row of flat elements: append onto a row that is owned. -/
theorem wpList_appFlat {ops : Array Oper} {rest : List Oper} {o : Oper} {a : Act} {Q : Exit → Act → World → Prop} (hgd : o.guard = none) (s y : Operand) (t e : TypeId)
    (ho : o.op = .call { callee := .builtin .append, args := #[s, y], argTypes := #[t, t] }) (ht : P.underlying t = some (.slice e)) (hr : rowOf P e d.sz = true) (hf : Flat d)
    {A : Option Addr} {c : Nat} (hv : a.eval s = v) (hx : a.eval y = .slice A zs.length c) (h : OwnS d e B w fp v ys) (nd : fp.Nodup) (hz : RdS d w A c zs)
    (hn : ys.length + zs.length ≤ 1073741824) (hB : B ≤ w.heap.size)
    (k : ∀ v' w' fp', Grew d e B w fp [] v' w' fp' (ys ++ zs) → wpList P ops Q rest (a.put o.dst v') w') : wpList P ops Q (o :: rest) a w := by
  obtain ⟨ce, hs, hl⟩ := hz.src (P := P) ht
  exact wpList_app hgd s y t e ho ht hr hv hx h nd hs (hf.row hl) List.nodup_nil (fun b _ hb => by cases hb) hn hB k
end
/-! ### rows whose elements are still another's -/
section
variable {α : Type}
/-- An element as it was read in the world W0; its parts are not owned. -/
def based (d : Kd α) (W0 : World) : Kd α where
  sz := d.sz
  Rd _ cs x := d.Rd W0 cs x
  Own _ _ fp cs x := fp = [] ∧ d.Rd W0 cs x
  rd_len := d.rd_len
  rd_one := d.rd_one
  rd_below h _ := h
  own_rd h := h.2
  own_in h := by rw [h.1]; intro b hb; cases hb
  own_keep h _ := h
  own_lift h _ := h
theorem flat_based (d : Kd α) (W0 : World) : Flat (based d W0) := fun _ _ _ _ h => ⟨rfl, h⟩
theorem rdL_based {d : Kd α} {w : World} : ∀ {cs : List Value} {xs : List α}, RdL d w cs xs → RdL (based d w) w cs xs
  | cs, [], h => h
  | cs, x :: xs, h => by obtain ⟨c1, c2, rfl, h1, h2⟩ := h; exact ⟨c1, c2, rfl, h1, rdL_based h2⟩
theorem rdS_based {d : Kd α} {w : World} {A : Option Addr} {c : Nat} {xs : List α} (h : RdS d w A c xs) : RdS (based d w) w A c xs := by
  obtain ⟨h1, h2, cells, h3, h4⟩ := h
  exact ⟨h1, h2, cells, rdL_based h3, h4⟩
/-- Elements of two kinds, told by a sign. -/
def either (a b : Kd α) (h : b.sz = a.sz) : Kd (Bool × α) where
  sz := a.sz
  Rd w cs x := match x with | (true, y) => a.Rd w cs y | (false, y) => b.Rd w cs y
  Own B w fp cs x := match x with | (true, y) => a.Own B w fp cs y | (false, y) => b.Own B w fp cs y
  rd_len := by rintro w cs ⟨_ | _, y⟩ hx; exact (b.rd_len hx).trans h; exact a.rd_len hx
  rd_one := by rintro w cs ⟨_ | _, y⟩ hx; exact b.rd_one hx; exact a.rd_one hx
  rd_below := by rintro w w' cs ⟨_ | _, y⟩ hx hb; exact b.rd_below hx hb; exact a.rd_below hx hb
  own_rd := by rintro B w fp cs ⟨_ | _, y⟩ hx; exact b.own_rd hx; exact a.own_rd hx
  own_in := by rintro B w fp cs ⟨_ | _, y⟩ hx; exact b.own_in hx; exact a.own_in hx
  own_keep := by rintro B w w' fp cs ⟨_ | _, y⟩ hx hk; exact b.own_keep hx hk; exact a.own_keep hx hk
  own_lift := by rintro B B' w fp cs ⟨_ | _, y⟩ hx hk; exact b.own_lift hx hk; exact a.own_lift hx hk
section
variable {a b : Kd α} {h : b.sz = a.sz} {B : Nat} {w : World} {e : TypeId} {v : Value}
theorem OwnL.yes : ∀ {fp : List Nat} {cs : List Value} {xs : List α}, OwnL (either a b h) B w fp cs (xs.map (fun x => (true, x))) → OwnL a B w fp cs xs
  | fp, cs, [], k => k
  | fp, cs, x :: xs, k => by obtain ⟨f1, f2, c1, c2, rfl, rfl, h1, h2⟩ := k; exact ⟨f1, f2, c1, c2, rfl, rfl, h1, OwnL.yes h2⟩
theorem OwnL.no : ∀ {fp : List Nat} {cs : List Value} {xs : List α}, OwnL b B w fp cs xs → OwnL (either a b h) B w fp cs (xs.map (fun x => (false, x)))
  | fp, cs, [], k => k
  | fp, cs, x :: xs, k => by obtain ⟨f1, f2, c1, c2, rfl, rfl, h1, h2⟩ := k; exact ⟨f1, f2, c1, c2, rfl, rfl, h1, OwnL.no h2⟩
theorem OwnS.yes {fp : List Nat} {xs : List α} (k : OwnS (either a b h) e B w fp v (xs.map (fun x => (true, x)))) : OwnS a e B w fp v xs := by
  rcases k with ⟨fi, inner, rfl, ho, hl⟩ | ⟨rfl, hx, A, rfl⟩
  · rw [List.length_map] at ho; exact .inl ⟨fi, inner, rfl, ho, hl.yes⟩
  · exact .inr ⟨rfl, by simpa using hx, A, rfl⟩
theorem OwnS.no {fp : List Nat} {xs : List α} (k : OwnS b e B w fp v xs) : OwnS (either a b h) e B w fp v (xs.map (fun x => (false, x))) := by
  rcases k with ⟨fi, inner, rfl, ho, hl⟩ | ⟨rfl, rfl, A, rfl⟩
  · exact .inl ⟨fi, inner, rfl, by rw [List.length_map]; rw [h] at ho; exact ho, hl.no⟩
  · exact .inr ⟨rfl, rfl, A, rfl⟩
end
end
theorem bnd_of {a b : Nat} (h : a ≤ b) (hb : b ≤ 1048576) : 0 + a ≤ 1073741824 := by omega
end Mk

/- Rows that 'make' lays, known whole (own work; nothing of the program is named here). -/
set_option linter.unusedVariables false
set_option linter.unusedSimpArgs false
namespace Mk
open Go Go.RowKit
theorem made_rows (z : Array Value) : ∀ n : Nat, (madeCells z (n * z.size)).toList = (List.replicate n z.toList).flatten
  | 0 => by simp [madeCells]
  | n + 1 => by
    have ih := made_rows z n
    simp only [madeCells, Array.toList_map, Array.toList_range] at ih ⊢
    rw [Nat.succ_mul, List.range_add, List.map_append, ih, List.replicate_succ', List.flatten_append, List.map_map]
    congr 1
    simp only [List.flatten_cons, List.flatten_nil, List.append_nil]
    apply List.ext_getElem?
    intro i
    by_cases hi : i < z.size
    · rw [List.getElem?_map, List.getElem?_range hi]
      simp only [Option.map_some, Function.comp]
      rw [Nat.add_comm, Nat.add_mul_mod_self_right, Nat.mod_eq_of_lt hi]
      simp [hi]
    · rw [List.getElem?_eq_none (by simp; omega), List.getElem?_eq_none (by simp; omega)]
theorem blk_made (w : World) (z : Array Value) (n : Nat) (e : TypeId) : Blk (w.alloc (.cells (madeCells z (n * z.size)) e)) w.heap.size e (List.replicate n z.toList).flatten := by
  have h := blk_alloc w (madeCells z (n * z.size)).toList e
  rw [made_rows] at h
  have e2 : (List.replicate n z.toList).flatten.toArray = madeCells z (n * z.size) := by rw [← made_rows]
  rw [e2] at h
  exact h
section
variable {α : Type} {d : Kd α} {w : World} {e : TypeId} {B : Nat}
theorem ownL_rep {cs : List Value} {x : α} (h : d.Own B w [] cs x) : ∀ n : Nat, OwnL d B w [] (List.replicate n cs).flatten (List.replicate n x)
  | 0 => ⟨rfl, rfl⟩
  | n + 1 => by
    rw [List.replicate_succ, List.replicate_succ, List.flatten_cons]
    exact ⟨[], [], cs, _, rfl, rfl, h, ownL_rep h n⟩
/-- A block that is filled is a row that is owned. -/
theorem ownS_blk {g : Nat} {cells : List Value} {xs : List α} (h : Blk w g e cells) (hl : OwnL d B w [] cells xs) (hB : B ≤ g) (hm : xs.length ≤ maxLen) : OwnS d e B w [g] (.slice (some ⟨g, 0, none⟩) xs.length xs.length) xs :=
  .inl ⟨[], cells, rfl, ⟨RdL.len hl.rd, .inr ⟨g, xs.length, cells.toArray, rfl, hB, h, Nat.le_refl _, hm, by simp; exact RdL.len hl.rd, by simp; exact List.take_of_length_le (by rw [RdL.len hl.rd]; exact Nat.le_refl _)⟩⟩, hl⟩
end
section
variable {P : Program} {ops : Array Oper} {rest : List Oper} {o : Oper} {a : Act} {Q : Exit → Act → World → Prop}
theorem wpList_mk {W : World} (t e : TypeId) (z : Value) (bytes : Nat) (x y : Operand) (hgd : o.guard = none) (ho : o.op = .makeSlice t x y) (n : Nat) (hx : a.eval x = .int .i64 (n : Int)) (hy : a.eval y = .int .i64 (n : Int)) (ht : P.underlying t = some (.slice e))
    (hinfo : (P.info? e).map (fun i => (i.zero, i.size, i.bytes)) = some (some z, z.cells.size, bytes)) (hby : bytes ≤ 1024) (hn : n ≤ 1073741824)
    (h' : ∀ W', Blk W' W.heap.size e (List.replicate n z.cells.toList).flatten → Below W.heap.size W W' → W.heap.size < W'.heap.size → wpList P ops Q rest (a.put o.dst (.slice (some ⟨W.heap.size, 0, none⟩) n n)) W') : wpList P ops Q (o :: rest) a W := by
  have h := h' (W.alloc (.cells (madeCells z.cells (n * z.cells.size)) e)) (blk_made W z.cells n e) (below_alloc (Below.refl _ _) _) (by rw [Deep.nblk_alloc]; omega)
  refine wpList_plain hgd fun K hK => ?_
  unfold Oper.wp
  cases hi : P.info? e with
  | none => rw [hi] at hinfo; cases hinfo
  | some i =>
    rw [hi] at hinfo
    simp only [Option.map_some, Option.some.injEq, Prod.mk.injEq] at hinfo
    obtain ⟨hz, hs, hb⟩ := hinfo
    have hm : i.bytes * n ≤ 1024 * 1073741824 := Nat.mul_le_mul (by omega) hn
    have hr := run_make (P := P) W t e i z ht hi hz .i64 .i64 (n : Int) (n : Int) (by omega) (by omega)
      (by
        have : ((i.bytes * n : Nat) : Int) ≤ 281474976710656 := by omega
        rwa [Int.natCast_mul] at this) (by omega)
    simp only [Int.toNat_natCast] at hr
    have he : (execOp a.eval o).run P W = .ok (.value (.slice (some ⟨W.heap.size, 0, none⟩) n n)) (W.alloc (.cells (madeCells z.cells (n * i.size)) e)) := by
      simp [execOp, ho, hx, hy, hr]
    rw [he, hs]
    exact hK _ _ h
theorem step_app {α : Type} {d : Kd α} {w : World} {B : Nat} {fp fs : List Nat} {v x : Value} {ys zs : List α} {ce : List Value} {K : Act → World → Prop} {E : Prop} (hgd : o.guard = none) (s y : Operand) (t e : TypeId)
    (ho : o.op = .call { callee := .builtin .append, args := #[s, y], argTypes := #[t, t] }) (ht : P.underlying t = some (.slice e)) (hr : rowOf P e d.sz = true)
    (hv : a.eval s = v) (hx : a.eval y = x) (h : OwnS d e B w fp v ys) (nd : fp.Nodup) (hs : Src P d.sz t x zs.length ce w) (hl : OwnL d B w fs ce zs) (nfs : fs.Nodup) (hd : ∀ b ∈ fp, b ∉ fs)
    (hn : ys.length + zs.length ≤ 1073741824) (hB : B ≤ w.heap.size)
    (k : ∀ v' w' fp', Grew d e B w fp fs v' w' fp' (ys ++ zs) → K (a.put o.dst v') w') : if Region.wanted o (yielded ops a.tmps) = true then Oper.wp P o a w K Q else E := by
  have hw : Region.wanted o (yielded ops a.tmps) = true := by simp [Region.wanted, hgd]
  rw [if_pos hw]
  obtain ⟨v', w', fp', hrun, hg⟩ := append_owns (ty := o.type) ht hr h nd hs hl nfs hd hn hB
  unfold Oper.wp execOp
  simp only [ho, resolve, invoke, builtin, Sem.run_bind, Sem.run_pure, Result.andThen_ok, List.map_toArray, List.map_cons, List.map_nil, hv, hx, hrun]
  exact k v' w' fp' hg
/-- The world of a goal, by what is known of it. -/
theorem at_world {c : Code} {W : World} (F : World → Prop) (h : F W) (k : ∀ W', F W' → Code.wp P c Q a W') : Code.wp P c Q a W := k W h
theorem at_call {f : FuncId} {args : Array Value} {W : World} {R : Ending → World → Prop} (F : World → Prop) (h : F W) (k : ∀ W', F W' → Calls P f args W' R) : Calls P f args W R := k W h
end
end Mk
