/- Rows that are made and filled, element by element; how 'make' is stepped over (own work; nothing of the program is named here). -/
import Derived.Test.YtfblopmploohkaaGreatDoorZMk
import Derived.Laws.IdiomCopy
import Derived.Laws.MakeOwn
import Derived.Deep.Heap
set_option linter.unusedVariables false
set_option linter.unusedSimpArgs false
namespace Mk
open Go Go.RowKit

/-! ### a block that is written -/
theorem set_block (w : World) (g j : Nat) (v : Value) (k : Nat) (hk : k ≠ g) : (w.setCell ⟨g, j, none⟩ v).heap[k]? = w.heap[k]? := by
  simp only [World.setCell, Array.getElem?_modify]
  rw [if_neg (by exact fun h => hk h.symm)]
theorem sets_block (g : Nat) : ∀ (vs : List Value) (o : Nat) (w : World) (k : Nat), k ≠ g → (w.setCells g o vs).heap[k]? = w.heap[k]?
  | [], _, _, _, _ => rfl
  | v :: r, o, w, k, hk => by rw [World.setCells, sets_block g r (o + 1) _ k hk, set_block w g o v k hk]
theorem sets_size (g : Nat) : ∀ (vs : List Value) (o : Nat) (w : World), (w.setCells g o vs).heap.size = w.heap.size
  | [], _, _ => rfl
  | v :: r, o, w => by rw [World.setCells, sets_size g r (o + 1) _]; simp [World.setCell]
theorem sets_here (g : Nat) (e : TypeId) : ∀ (vs : List Value) (o : Nat) (w : World) (cur : Array Value), w.heap[g]? = some (.cells cur e (0, 0)) → o + vs.length ≤ cur.size →
    ∃ cur', (w.setCells g o vs).heap[g]? = some (.cells cur' e (0, 0)) ∧ cur'.size = cur.size ∧ cur'.toList = cur.toList.take o ++ vs ++ cur.toList.drop (o + vs.length)
  | [], o, w, cur, h, hl => ⟨cur, h, rfl, by simp⟩
  | v :: r, o, w, cur, h, hl => by
    have h1 : (w.setCell ⟨g, o, none⟩ v).heap[g]? = some (.cells (cur.setIfInBounds o v) e (0, 0)) := by
      simp only [World.setCell, Array.getElem?_modify, h]
      simp
    simp only [List.length_cons] at hl
    obtain ⟨cur', h2, h3, h4⟩ := sets_here g e r (o + 1) _ _ h1 (by simp; omega)
    refine ⟨cur', h2, by simpa using h3, ?_⟩
    rw [h4]
    have ho : o < cur.toList.length := by simp; omega
    simp only [Array.toList_setIfInBounds, List.length_cons]
    rw [List.take_succ_eq_append_getElem (by simpa using ho), List.take_set_of_le (Nat.le_refl _), List.drop_set_of_lt (by omega), List.getElem_set_self, show o + 1 + r.length = o + (r.length + 1) from by omega]
    simp
theorem below_sets {B g : Nat} {w : World} (hg : B ≤ g) : ∀ (vs : List Value) (o : Nat) (W : World), Below B w W → Below B w (W.setCells g o vs)
  | [], _, _, h => h
  | v :: r, o, W, h => below_sets hg r (o + 1) _ (h.setCell hg v)

/-! ### rows being filled -/
section
variable {α : Type} (d : Kd α)
/-- Block g is a row of n elements; the first of them are ys. -/
def Half (e : TypeId) (B : Nat) (W : World) (g n : Nat) (ys : List α) : Prop :=
  ∃ cur fi, W.heap[g]? = some (.cells cur e (0, 0)) ∧ cur.size = n * d.sz ∧ n ≤ maxLen ∧ B ≤ g ∧ g < W.heap.size ∧ ys.length ≤ n ∧ OwnL d B W fi (cur.toList.take (ys.length * d.sz)) ys ∧ g ∉ fi ∧ fi.Nodup
end
section
variable {α : Type} {d : Kd α} {e : TypeId} {B : Nat} {w W W' : World} {g n : Nat} {ys : List α}
theorem Half.start (Z : Array Value) (hZ : Z.size = n * d.sz) (hn : n ≤ maxLen) (hB : B ≤ W.heap.size) : Half d e B (W.alloc (.cells Z e)) W.heap.size n [] :=
  ⟨Z, [], heap_alloc_new W _, hZ, hn, hB, by show _ < (W.heap.push _).size; simp, Nat.zero_le _, ⟨rfl, by simp⟩, by simp, by simp⟩
theorem Half.below (h : Half d e B W g n ys) (hb : Below W.heap.size W W') : Half d e B W' g n ys := by
  obtain ⟨cur, fi, h1, h2, h3, h4, h5, h6, h7, h8, h9⟩ := h
  exact ⟨cur, fi, (hb.block g h5).trans h1, h2, h3, h4, Nat.lt_of_lt_of_le h5 hb.size, h6, h7.keep (fun b hbf => hb.block b (h7.in b hbf).2), h8, h9⟩
theorem Half.there (h : Half d e B W g n ys) {k j : Nat} (hk : k < n) (hj : j < d.sz) : (∃ u, W.cell? ⟨g, k * d.sz + j, none⟩ = some u) ∧ W.frozen? ⟨g, k * d.sz + j, none⟩ = false := by
  obtain ⟨cur, fi, h1, h2, h3, h4, h5, h6, h7, h8, h9⟩ := h
  have hlt : k * d.sz + j < cur.size := by
    rw [h2]
    have : (k + 1) * d.sz ≤ n * d.sz := Nat.mul_le_mul_right _ hk
    rw [Nat.succ_mul] at this
    omega
  refine ⟨⟨cur[k * d.sz + j], ?_⟩, ?_⟩
  · rw [cell_of_row W g _ cur e (0, 0) h1, Array.getElem?_eq_getElem hlt]
  · simp [World.frozen?, h1]
/-- One more element, the value of a call that laid all that it leads to. -/
theorem Half.push (h : Half d e B W g n ys) (hl : ys.length < n) (hb : Below W.heap.size W W') {fp : List Nat} {cs : List Value} {y : α} (hy : d.Own W.heap.size W' fp cs y) (hn : fp.Nodup) :
    Half d e B (W'.setCells g (ys.length * d.sz) cs) g n (ys ++ [y]) := by
  obtain ⟨cur, fi, h1, h2, h3, h4, h5, h6, h7, h8, h9⟩ := h
  have hcs : cs.length = d.sz := d.rd_len (d.own_rd hy)
  have h1' : W'.heap[g]? = some (.cells cur e (0, 0)) := (hb.block g h5).trans h1
  have hle : (ys.length + 1) * d.sz ≤ n * d.sz := Nat.mul_le_mul_right _ hl
  rw [Nat.succ_mul] at hle
  obtain ⟨cur', k1, k2, k3⟩ := sets_here g e cs (ys.length * d.sz) W' cur h1' (by omega)
  have hin := d.own_in hy
  have hg : ∀ b ∈ fp, b ≠ g := fun b hbf => by have := (hin b hbf).1; omega
  have hg' : ∀ b ∈ fi, b ≠ g := fun b hbf e => h8 (e ▸ hbf)
  refine ⟨cur', fi ++ fp, k1, by rw [k2, h2], h3, h4, by rw [sets_size]; exact Nat.lt_of_lt_of_le h5 hb.size, by simp; omega, ?_, ?_, ?_⟩
  · have : cur'.toList.take ((ys ++ [y]).length * d.sz) = cur.toList.take (ys.length * d.sz) ++ cs := by
      rw [k3, List.length_append, List.length_singleton, Nat.succ_mul, List.take_append_of_le_length (by simp; omega), List.take_of_length_le (by simp; omega)]
    rw [this]
    refine OwnL.append ?_ (OwnL.single ?_)
    · exact h7.keep (fun b hbf => (sets_block g cs _ W' b (hg' b hbf)).trans (hb.block b (h7.in b hbf).2))
    · exact d.own_lift (d.own_keep hy (fun b hbf => sets_block g cs _ W' b (hg b hbf))) (fun b hbf => by have := (hin b hbf).1; omega)
  · intro hmem
    rcases List.mem_append.1 hmem with h | h
    · exact h8 h
    · exact hg g h rfl
  · refine List.nodup_append.2 ⟨h9, hn, fun a ha b hb' hab => ?_⟩
    have := (h7.in a ha).2
    have := (hin b hb').1
    omega
theorem Half.done (h : Half d e B W g n ys) (hl : ys.length = n) : ∃ fp, fp.Nodup ∧ OwnS d e B W fp (.slice (some ⟨g, 0, none⟩) n n) ys := by
  subst hl
  obtain ⟨cur, fi, h1, h2, h3, h4, h5, h6, h7, h8, h9⟩ := h
  refine ⟨g :: fi, List.nodup_cons.2 ⟨h8, h9⟩, .inl ⟨fi, _, rfl, ⟨?_, .inr ⟨g, ys.length, cur, rfl, h4, h1, Nat.le_refl _, h3, h2, rfl⟩⟩, h7⟩⟩
  simp [h2]
theorem Half.new (h : Half d e w.heap.size W g n ys) (hl : ys.length = n) : New (slice e d) w W (.slice (some ⟨g, 0, none⟩) n n) ys := by
  obtain ⟨fp, h1, h2⟩ := h.done hl
  exact ⟨fp, h1, _, rfl, h2⟩
end

/-! ### what a function laid before, behind its own boxes -/
/-- All blocks from lo on that were there are as they were. -/
def Past (lo : Nat) (w W : World) : Prop := w.heap.size ≤ W.heap.size ∧ ∀ b, lo ≤ b → b < w.heap.size → W.heap[b]? = w.heap[b]?
theorem Past.refl (lo : Nat) (w : World) : Past lo w w := ⟨Nat.le_refl _, fun _ _ _ => rfl⟩
theorem Past.set {lo : Nat} {w W : World} (h : Past lo w W) {g j : Nat} (hp : g < lo) (v : Value) : Past lo w (W.setCell ⟨g, j, none⟩ v) :=
  ⟨by rw [Deep.nblk_setCell]; exact h.1, fun b hb hl => (set_block W g j v b (by omega)).trans (h.2 b hb hl)⟩
theorem Past.below {lo : Nat} {w W W' : World} (h : Past lo w W) (hb : Below W.heap.size W W') : Past lo w W' :=
  ⟨Nat.le_trans h.1 hb.size, fun b h1 h2 => (hb.block b (Nat.lt_of_lt_of_le h2 h.1)).trans (h.2 b h1 h2)⟩
theorem Past.alloc {lo : Nat} {w W : World} (h : Past lo w W) (o : Obj) : Past lo w (W.alloc o) := h.below (below_alloc (Below.refl _ _) o)
theorem Past.trans {lo : Nat} {w W W' : World} (h : Past lo w W) (h2 : Past lo W W') : Past lo w W' :=
  ⟨Nat.le_trans h.1 h2.1, fun b hb hl => (h2.2 b hb (Nat.lt_of_lt_of_le hl h.1)).trans (h.2 b hb hl)⟩
theorem OwnS.past {α : Type} {d : Kd α} {e : TypeId} {B lo lo2 : Nat} {w W : World} {fp : List Nat} {v : Value} {xs : List α} (h : OwnS d e B w fp v xs) (hp : Past lo w W) (h1 : lo ≤ B) (h2 : lo2 ≤ B) : OwnS d e lo2 W fp v xs :=
  (OwnS.keep h (fun b hb => hp.2 b (Nat.le_trans h1 (h.in b hb).1) (h.in b hb).2)).lift (fun b hb => Nat.le_trans h2 (h.in b hb).1)
theorem nodup_join {f1 f2 : List Nat} {m : Nat} (h1 : f1.Nodup) (h2 : f2.Nodup) (b1 : ∀ b ∈ f1, b < m) (b2 : ∀ b ∈ f2, m ≤ b) : (f1 ++ f2).Nodup :=
  List.nodup_append.2 ⟨h1, h2, fun a ha b hb hab => by have := b1 a ha; have := b2 b hb; omega⟩

/-! ### 'make' -/
/-- A type's elements are of so many cells and of no more than a thousand bytes. -/
def rowFits (P : Program) (e : TypeId) (sz : Nat) : Bool :=
  match P.info? e with
  | some i => i.zero.isSome && i.size == sz && decide (i.bytes ≤ 1024)
  | none => false
section
variable {P : Program} {ops : Array Oper} {rest : List Oper} {o : Oper} {a : Act} {Q : Exit → Act → World → Prop}
theorem wpList_make {W : World} (t e sz : Nat) (x y : Operand) (hgd : o.guard = none) (ho : o.op = .makeSlice t x y) (n : Nat) (hx : a.eval x = .int .i64 (n : Int)) (hy : a.eval y = .int .i64 (n : Int)) (ht : P.underlying t = some (.slice e))
    (hf : rowFits P e sz = true) (hn : n ≤ 1073741824) (h : ∀ Z : Array Value, Z.size = n * sz → wpList P ops Q rest (a.put o.dst (.slice (some ⟨W.heap.size, 0, none⟩) n n)) (W.alloc (.cells Z e))) : wpList P ops Q (o :: rest) a W := by
  refine wpList_plain hgd fun K hK => ?_
  unfold Oper.wp
  unfold rowFits at hf
  split at hf
  · rename_i i hi
    simp only [Bool.and_eq_true, decide_eq_true_eq, beq_iff_eq] at hf
    obtain ⟨⟨hz, hs⟩, hby⟩ := hf
    obtain ⟨z, hz⟩ := Option.isSome_iff_exists.1 hz
    have hm : i.bytes * n ≤ 1024 * 1073741824 := Nat.mul_le_mul hby hn
    have hr := run_make (P := P) W t e i z ht hi hz .i64 .i64 (n : Int) (n : Int) (by omega) (by omega)
      (by
        have : ((i.bytes * n : Nat) : Int) ≤ 281474976710656 := by omega
        rwa [Int.natCast_mul] at this) (by omega)
    simp only [Int.toNat_natCast] at hr
    have he : (execOp a.eval o).run P W = .ok (.value (.slice (some ⟨W.heap.size, 0, none⟩) n n)) (W.alloc (.cells (madeCells z.cells (n * i.size)) e)) := by
      simp [execOp, ho, hx, hy, hr]
    rw [he]
    exact hK _ _ (h _ (by rw [size_madeCells, hs]))
  · cases hf
end
end Mk
