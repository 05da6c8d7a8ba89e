/- How Go values are read and owned in memory, kind by kind: the words of this set's contracts. Nothing of the program is named here. -/
import Derived.WalkKit
import Derived.KernelRfl
import Derived.WalkSpells
import Derived.WalkLawsBesides
import Derived.Lib.Hide
import Derived.Deep.QuietTactic
import Derived.BigQuiet
import Derived.BigGuardPart
import Derived.Deep.LoopGhost
import Derived.StillTailTactics
import Derived.Deep.DeepCutAuto
import Derived.Deep.Light
import Derived.Deep.CutBlock
import Derived.Shelf.SlicesQ.Load
import Derived.Shelf.Abstract
set_option linter.unusedVariables false
set_option linter.unusedSimpArgs false
namespace Mk
open Go Go.RowKit

/-! ### addresses, cells -/
theorem add_add (a : Addr) (m n : Nat) : (a.add m).add n = a.add (m + n) := by
  unfold Addr.add; by_cases hm : m = 0 <;> by_cases hn : n = 0 <;> simp [hm, hn, Nat.add_assoc]
theorem add_block (a : Addr) (m : Nat) : (a.add m).block = a.block := by unfold Addr.add; split <;> rfl
theorem add_succ (a : Addr) (j : Nat) : a.add (j + 1) = ⟨a.block, a.off + (j + 1), none⟩ := by unfold Addr.add; simp
/-- From address p on the cells hold cs. -/
def Lies (w : World) (p : Addr) (cs : List Value) : Prop := ∀ j u, cs[j]? = some u → w.cell? (p.add j) = some u
theorem cell_below {w w' : World} (hb : Below w.heap.size w w') {a : Addr} {v : Value} (h : w.cell? a = some v) : w'.cell? a = some v :=
  (hb.cell (World.block_lt_of_cell? w _ h)).trans h
theorem Lies.below {w w' : World} {p : Addr} {cs : List Value} (h : Lies w p cs) (hb : Below w.heap.size w w') : Lies w' p cs :=
  fun j u hu => cell_below hb (h j u hu)
theorem Lies.part {w : World} {p : Addr} {c1 c2 c3 : List Value} (h : Lies w p (c1 ++ c2 ++ c3)) : Lies w (p.add c1.length) c2 := by
  intro j u hu
  rw [add_add]
  have hj := (List.getElem?_eq_some_iff.1 hu).1
  exact h _ _ (by rw [List.append_assoc, List.getElem?_append_right (by omega), Nat.add_sub_cancel_left, List.getElem?_append_left hj]; exact hu)
theorem Lies.take {w : World} {p : Addr} {cs : List Value} (h : Lies w p cs) (n : Nat) : Lies w p (cs.take n) := by
  intro j u hu
  refine h j u ?_
  rw [List.getElem?_take] at hu
  split at hu
  · exact hu
  · cases hu
theorem Lies.drop {w : World} {p : Addr} {cs : List Value} (h : Lies w p cs) (n : Nat) : Lies w (p.add n) (cs.drop n) := by
  intro j u hu
  rw [add_add]
  exact h _ _ (by rw [List.getElem?_drop] at hu; exact hu)
/-- The cells in the spelling of the walk. -/
theorem Lies.c0 {w : World} {p : Addr} {a : Value} {cs : List Value} (h : Lies w p (a :: cs)) : w.cell? p = some a := h 0 a rfl
theorem Lies.cS {w : World} {p : Addr} {cs : List Value} (h : Lies w p cs) (j : Nat) {u : Value} (hu : cs[j + 1]? = some u) : w.cell? ⟨p.block, p.off + (j + 1), none⟩ = some u := by
  rw [← add_succ]; exact h _ _ hu
theorem lies_alloc (w : World) (cs : Array Value) (t : TypeId) : Lies (w.alloc (.cells cs t)) ⟨w.heap.size, 0, none⟩ cs.toList := by
  intro j u hu
  have hadd : (⟨w.heap.size, 0, none⟩ : Addr).add j = ⟨w.heap.size, j, none⟩ := by unfold Addr.add; split <;> simp_all
  rw [hadd]
  rw [cell_of_row (w.alloc (.cells cs t)) w.heap.size j cs t (0, 0) (heap_alloc_new w _)]
  simpa using hu

/-! ### kinds -/
structure Kd (α : Type) where
  sz : Nat
  Rd : World → List Value → α → Prop
  Own : Nat → World → List Nat → List Value → α → Prop
  rd_len : ∀ {w cs x}, Rd w cs x → cs.length = sz
  rd_one : ∀ {w cs x}, Rd w cs x → ∀ u ∈ cs, u.oneCell' = true
  rd_below : ∀ {w w' cs x}, Rd w cs x → Below w.heap.size w w' → Rd w' cs x
  own_rd : ∀ {B w fp cs x}, Own B w fp cs x → Rd w cs x
  own_in : ∀ {B w fp cs x}, Own B w fp cs x → ∀ b ∈ fp, B ≤ b ∧ b < w.heap.size
  own_keep : ∀ {B} {w w' : World} {fp cs x}, Own B w fp cs x → (∀ b ∈ fp, w'.heap[b]? = w.heap[b]?) → Own B w' fp cs x
  own_lift : ∀ {B B' w fp cs x}, Own B w fp cs x → (∀ b ∈ fp, B' ≤ b) → Own B' w fp cs x

def scalar {α : Type} (enc : α → Value) (h1 : ∀ x, (enc x).oneCell' = true) : Kd α where
  sz := 1
  Rd _ cs x := cs = [enc x]
  Own _ _ fp cs x := fp = [] ∧ cs = [enc x]
  rd_len h := by subst h; rfl
  rd_one h := by subst h; intro u hu; simp at hu; subst hu; exact h1 _
  rd_below h _ := h
  own_rd h := h.2
  own_in h := by rw [h.1]; intro b hb; cases hb
  own_keep h _ := h
  own_lift h _ := h
def kInt : Kd Int := scalar (Value.int .i64) (fun _ => rfl)
def kBool : Kd Bool := scalar Value.bool (fun _ => rfl)
def kByte : Kd Int := scalar (Value.int .u8) (fun _ => rfl)
def kStr : Kd ByteArray := scalar Value.string (fun _ => rfl)

def pair {α β : Type} (a : Kd α) (b : Kd β) : Kd (α × β) where
  sz := a.sz + b.sz
  Rd w cs x := ∃ c1 c2, cs = c1 ++ c2 ∧ a.Rd w c1 x.1 ∧ b.Rd w c2 x.2
  Own B w fp cs x := ∃ f1 f2 c1 c2, fp = f1 ++ f2 ∧ cs = c1 ++ c2 ∧ a.Own B w f1 c1 x.1 ∧ b.Own B w f2 c2 x.2
  rd_len := by rintro w cs x ⟨c1, c2, rfl, h1, h2⟩; rw [List.length_append, a.rd_len h1, b.rd_len h2]
  rd_one := by
    rintro w cs x ⟨c1, c2, rfl, h1, h2⟩ u hu
    rcases List.mem_append.1 hu with h | h
    · exact a.rd_one h1 u h
    · exact b.rd_one h2 u h
  rd_below := by rintro w w' cs x ⟨c1, c2, rfl, h1, h2⟩ hb; exact ⟨c1, c2, rfl, a.rd_below h1 hb, b.rd_below h2 hb⟩
  own_rd := by rintro B w fp cs x ⟨f1, f2, c1, c2, rfl, rfl, h1, h2⟩; exact ⟨c1, c2, rfl, a.own_rd h1, b.own_rd h2⟩
  own_in := by
    rintro B w fp cs x ⟨f1, f2, c1, c2, rfl, rfl, h1, h2⟩ k hk
    rcases List.mem_append.1 hk with h | h
    · exact a.own_in h1 k h
    · exact b.own_in h2 k h
  own_keep := by
    rintro B w w' fp cs x ⟨f1, f2, c1, c2, rfl, rfl, h1, h2⟩ hk
    exact ⟨f1, f2, c1, c2, rfl, rfl, a.own_keep h1 (fun k h => hk k (List.mem_append_left _ h)), b.own_keep h2 (fun k h => hk k (List.mem_append_right _ h))⟩
  own_lift := by
    rintro B B' w fp cs x ⟨f1, f2, c1, c2, rfl, rfl, h1, h2⟩ hk
    exact ⟨f1, f2, c1, c2, rfl, rfl, a.own_lift h1 (fun k h => hk k (List.mem_append_left _ h)), b.own_lift h2 (fun k h => hk k (List.mem_append_right _ h))⟩

def iso {α β : Type} (d : Kd α) (f : β → α) : Kd β where
  sz := d.sz
  Rd w cs x := d.Rd w cs (f x)
  Own B w fp cs x := d.Own B w fp cs (f x)
  rd_len := d.rd_len
  rd_one := d.rd_one
  rd_below := d.rd_below
  own_rd := d.own_rd
  own_in := d.own_in
  own_keep := d.own_keep
  own_lift := d.own_lift

theorem drop_add_append {α : Type} {c1 c2 : List α} {n m : Nat} (h : c1.length = n) : (c1 ++ c2).drop (n + m) = c2.drop m := by subst h; exact List.drop_length_add_append ..
/-! ### rows of elements -/
section
variable {α : Type} (d : Kd α)
def RdL (w : World) : List Value → List α → Prop
  | cs, [] => cs = []
  | cs, x :: xs => ∃ c1 c2, cs = c1 ++ c2 ∧ d.Rd w c1 x ∧ RdL w c2 xs
def OwnL (B : Nat) (w : World) : List Nat → List Value → List α → Prop
  | fp, cs, [] => fp = [] ∧ cs = []
  | fp, cs, x :: xs => ∃ f1 f2 c1 c2, fp = f1 ++ f2 ∧ cs = c1 ++ c2 ∧ d.Own B w f1 c1 x ∧ OwnL B w f2 c2 xs
/-- A slice is read: address A, capacity c, elements xs. -/
def RdS (w : World) (A : Option Addr) (c : Nat) (xs : List α) : Prop :=
  xs.length ≤ c ∧ c ≤ maxLen ∧ ∃ cells, RdL d w cells xs ∧ (xs ≠ [] → ∃ a, A = some a ∧ Lies w a cells)
/-- A slice is owned: element type e; its array and all that its elements reach are fp. -/
def OwnS (e : TypeId) (B : Nat) (w : World) (fp : List Nat) (v : Value) (xs : List α) : Prop :=
  (∃ fi inner, fp = v.ownBlock.toList ++ fi ∧ w.ownsRow B e d.sz v xs.length inner ∧ OwnL d B w fi inner xs) ∨ (fp = [] ∧ xs = [] ∧ ∃ A, v = .slice A 0 0)
end
section
variable {α : Type} {d : Kd α} {w w' : World} {A : Option Addr} {c : Nat} {xs : List α} {cs : List Value} {B B' : Nat} {fp : List Nat}
theorem RdL.len : ∀ {cs : List Value} {xs : List α}, RdL d w cs xs → cs.length = xs.length * d.sz
  | cs, [], h => by have h : cs = [] := h; subst h; simp
  | cs, x :: xs, h => by
    obtain ⟨c1, c2, rfl, h1, h2⟩ := h
    rw [List.length_append, d.rd_len h1, RdL.len h2, List.length_cons, Nat.add_mul, Nat.one_mul, Nat.add_comm]
theorem RdL.one : ∀ {cs : List Value} {xs : List α}, RdL d w cs xs → ∀ u ∈ cs, u.oneCell' = true
  | cs, [], h => by have h : cs = [] := h; subst h; intro u hu; cases hu
  | cs, x :: xs, h => by
    obtain ⟨c1, c2, rfl, h1, h2⟩ := h
    intro u hu
    rcases List.mem_append.1 hu with h | h
    · exact d.rd_one h1 u h
    · exact RdL.one h2 u h
theorem RdL.below : ∀ {cs : List Value} {xs : List α}, RdL d w cs xs → Below w.heap.size w w' → RdL d w' cs xs
  | cs, [], h, _ => h
  | cs, x :: xs, h, hb => by obtain ⟨c1, c2, rfl, h1, h2⟩ := h; exact ⟨c1, c2, rfl, d.rd_below h1 hb, RdL.below h2 hb⟩
theorem RdL.at : ∀ {cs : List Value} {xs : List α} {k : Nat} {x : α}, RdL d w cs xs → xs[k]? = some x → ∃ c1 c2 c3, cs = c1 ++ c2 ++ c3 ∧ c1.length = k * d.sz ∧ d.Rd w c2 x
  | cs, [], k, x, _, hx => by simp at hx
  | cs, y :: xs, 0, x, h, hx => by
    obtain ⟨c1, c2, rfl, h1, h2⟩ := h
    simp at hx; subst hx
    exact ⟨[], c1, c2, by simp, by simp, h1⟩
  | cs, y :: xs, k + 1, x, h, hx => by
    obtain ⟨c1, c2, rfl, h1, h2⟩ := h
    obtain ⟨a, b, c, rfl, hl, hr⟩ := RdL.at h2 (by simpa using hx)
    exact ⟨c1 ++ a, b, c, by simp, by rw [List.length_append, d.rd_len h1, hl, Nat.add_mul, Nat.one_mul, Nat.add_comm], hr⟩
theorem RdL.take : ∀ {cs : List Value} {xs : List α} (k : Nat), RdL d w cs xs → RdL d w (cs.take (k * d.sz)) (xs.take k)
  | cs, [], k, h => by have h : cs = [] := h; subst h; simp [RdL]
  | cs, x :: xs, 0, h => by simp [RdL]
  | cs, x :: xs, k + 1, h => by
    obtain ⟨c1, c2, rfl, h1, h2⟩ := h
    refine ⟨c1, c2.take (k * d.sz), ?_, h1, RdL.take k h2⟩
    rw [Nat.add_mul, Nat.one_mul, Nat.add_comm, ← d.rd_len h1, List.take_length_add_append]
theorem RdL.drop : ∀ {cs : List Value} {xs : List α} (k : Nat), RdL d w cs xs → RdL d w (cs.drop (k * d.sz)) (xs.drop k)
  | cs, [], k, h => by have h : cs = [] := h; subst h; simp [RdL]
  | cs, x :: xs, 0, h => by simpa using h
  | cs, x :: xs, k + 1, h => by
    obtain ⟨c1, c2, rfl, h1, h2⟩ := h
    have := RdL.drop k h2
    rw [Nat.add_mul, Nat.one_mul, Nat.add_comm, drop_add_append (d.rd_len h1)]
    exact this
theorem RdL.append : ∀ {cs cs' : List Value} {xs xs' : List α}, RdL d w cs xs → RdL d w cs' xs' → RdL d w (cs ++ cs') (xs ++ xs')
  | cs, cs', [], xs', h, h' => by have h : cs = [] := h; subst h; simpa using h'
  | cs, cs', x :: xs, xs', h, h' => by
    obtain ⟨c1, c2, rfl, h1, h2⟩ := h
    exact ⟨c1, c2 ++ cs', by simp, h1, RdL.append h2 h'⟩
theorem RdS.below (h : RdS d w A c xs) (hb : Below w.heap.size w w') : RdS d w' A c xs := by
  obtain ⟨h1, h2, cells, h3, h4⟩ := h
  exact ⟨h1, h2, cells, h3.below hb, fun hn => by obtain ⟨a, e, l⟩ := h4 hn; exact ⟨a, e, l.below hb⟩⟩
theorem RdS.at (h : RdS d w A c xs) {k : Nat} {x : α} (hx : xs[k]? = some x) : ∃ a cs, A = some a ∧ Lies w (a.add (k * d.sz)) cs ∧ d.Rd w cs x := by
  obtain ⟨h1, h2, cells, h3, h4⟩ := h
  obtain ⟨c1, c2, c3, rfl, hl, hr⟩ := RdL.at h3 hx
  obtain ⟨a, e, l⟩ := h4 (by rintro rfl; simp at hx)
  exact ⟨a, c2, e, by rw [← hl]; exact l.part, hr⟩
theorem RdS.le63 (h : RdS d w A c xs) : xs.length ≤ 9223372036854775807 := by have h1 := h.1; have h2 := h.2.1; unfold maxLen at h2; omega
theorem RdS.nil (c : Nat) (hc : c ≤ maxLen) : RdS d w A c [] := ⟨Nat.zero_le _, hc, [], rfl, fun h => absurd rfl h⟩
theorem RdS.nil0 : RdS d w none 0 [] := RdS.nil 0 (Nat.zero_le _)
theorem RdS.take (h : RdS d w A c xs) (k : Nat) : RdS d w A c (xs.take k) := by
  obtain ⟨h1, h2, cells, h3, h4⟩ := h
  refine ⟨Nat.le_trans (List.length_take_le' _ _) h1, h2, _, h3.take k, fun hn => ?_⟩
  obtain ⟨a, e, l⟩ := h4 (by rintro rfl; simp at hn)
  exact ⟨a, e, l.take _⟩
theorem RdS.drop {a : Addr} (h : RdS d w (some a) c xs) (k : Nat) (hk : k ≤ xs.length) : RdS d w (some (a.add (k * d.sz))) (c - k) (xs.drop k) := by
  obtain ⟨h1, h2, cells, h3, h4⟩ := h
  refine ⟨by rw [List.length_drop]; omega, by omega, _, h3.drop k, fun hn => ?_⟩
  obtain ⟨a, e, l⟩ := h4 (by rintro rfl; simp at hn)
  cases e
  exact ⟨_, rfl, l.drop _⟩
theorem OwnL.rd : ∀ {fp : List Nat} {cs : List Value} {xs : List α}, OwnL d B w fp cs xs → RdL d w cs xs
  | fp, cs, [], h => h.2
  | fp, cs, x :: xs, h => by obtain ⟨f1, f2, c1, c2, rfl, rfl, h1, h2⟩ := h; exact ⟨c1, c2, rfl, d.own_rd h1, OwnL.rd h2⟩
theorem OwnL.in : ∀ {fp : List Nat} {cs : List Value} {xs : List α}, OwnL d B w fp cs xs → ∀ b ∈ fp, B ≤ b ∧ b < w.heap.size
  | fp, cs, [], h => by rw [h.1]; intro b hb; cases hb
  | fp, cs, x :: xs, h => by
    obtain ⟨f1, f2, c1, c2, rfl, rfl, h1, h2⟩ := h
    intro k hk
    rcases List.mem_append.1 hk with h | h
    · exact d.own_in h1 k h
    · exact OwnL.in h2 k h
theorem OwnL.keep : ∀ {fp : List Nat} {cs : List Value} {xs : List α}, OwnL d B w fp cs xs → (∀ b ∈ fp, w'.heap[b]? = w.heap[b]?) → OwnL d B w' fp cs xs
  | fp, cs, [], h, _ => h
  | fp, cs, x :: xs, h, hk => by
    obtain ⟨f1, f2, c1, c2, rfl, rfl, h1, h2⟩ := h
    exact ⟨f1, f2, c1, c2, rfl, rfl, d.own_keep h1 (fun k h => hk k (List.mem_append_left _ h)), OwnL.keep h2 (fun k h => hk k (List.mem_append_right _ h))⟩
theorem OwnL.lift : ∀ {fp : List Nat} {cs : List Value} {xs : List α}, OwnL d B w fp cs xs → (∀ b ∈ fp, B' ≤ b) → OwnL d B' w fp cs xs
  | fp, cs, [], h, _ => h
  | fp, cs, x :: xs, h, hk => by
    obtain ⟨f1, f2, c1, c2, rfl, rfl, h1, h2⟩ := h
    exact ⟨f1, f2, c1, c2, rfl, rfl, d.own_lift h1 (fun k h => hk k (List.mem_append_left _ h)), OwnL.lift h2 (fun k h => hk k (List.mem_append_right _ h))⟩
theorem OwnL.append : ∀ {fp fp' : List Nat} {cs cs' : List Value} {xs xs' : List α}, OwnL d B w fp cs xs → OwnL d B w fp' cs' xs' → OwnL d B w (fp ++ fp') (cs ++ cs') (xs ++ xs')
  | fp, fp', cs, cs', [], xs', h, h' => by obtain ⟨rfl, rfl⟩ := h; simpa using h'
  | fp, fp', cs, cs', x :: xs, xs', h, h' => by
    obtain ⟨f1, f2, c1, c2, rfl, rfl, h1, h2⟩ := h
    exact ⟨f1, f2 ++ fp', c1, c2 ++ cs', by simp, by simp, h1, OwnL.append h2 h'⟩
theorem OwnL.single {x : α} (h : d.Own B w fp cs x) : OwnL d B w fp cs [x] := ⟨fp, [], cs, [], by simp, by simp, h, rfl, rfl⟩
theorem OwnL.split : ∀ {fp : List Nat} {cs : List Value} (xs : List α) {ys : List α}, OwnL d B w fp cs (xs ++ ys) → ∃ f1 f2 c1 c2, fp = f1 ++ f2 ∧ cs = c1 ++ c2 ∧ OwnL d B w f1 c1 xs ∧ OwnL d B w f2 c2 ys
  | fp, cs, [], ys, h => ⟨[], fp, [], cs, by simp, by simp, ⟨rfl, rfl⟩, h⟩
  | fp, cs, x :: xs, ys, h => by
    obtain ⟨f1, f2, c1, c2, rfl, rfl, h1, h2⟩ := h
    obtain ⟨g1, g2, e1, e2, rfl, rfl, k1, k2⟩ := OwnL.split xs h2
    exact ⟨f1 ++ g1, g2, c1 ++ e1, e2, by simp, by simp, ⟨f1, g1, c1, e1, rfl, rfl, h1, k1⟩, k2⟩
theorem owns_move {base : Nat} {e : TypeId} {size n : Nat} {v : Value} {xs : List Value} (h : w.ownsRow base e size v n xs) (hm : ∀ k, v.ownBlock = some k → w'.heap[k]? = w.heap[k]?) : w'.ownsRow base e size v n xs := by
  obtain ⟨h1, h2⟩ := h
  refine ⟨h1, ?_⟩
  rcases h2 with h2 | ⟨g, cap, cur, rfl, hg, hh, r⟩
  · exact .inl h2
  · exact .inr ⟨g, cap, cur, rfl, hg, (hm g (by simp [Value.ownBlock])).trans hh, r⟩
theorem owns_lift {base base' : Nat} {e : TypeId} {size n : Nat} {v : Value} {xs : List Value} (h : w.ownsRow base e size v n xs) (hm : ∀ k, v.ownBlock = some k → base' ≤ k) : w.ownsRow base' e size v n xs := by
  obtain ⟨h1, h2⟩ := h
  refine ⟨h1, ?_⟩
  rcases h2 with h2 | ⟨g, cap, cur, rfl, hg, hh, r⟩
  · exact .inl h2
  · exact .inr ⟨g, cap, cur, rfl, hm g (by simp [Value.ownBlock]), hh, r⟩
theorem mem_toList {o : Option Nat} {k : Nat} : k ∈ o.toList ↔ o = some k := by cases o <;> simp [eq_comm]
variable {e : TypeId} {v : Value}
theorem OwnS.form (h : OwnS d e B w fp v xs) : ∃ A c, v = .slice A xs.length c ∧ RdS d w A c xs := by
  rcases h with ⟨fi, inner, rfl, ho, hl⟩ | ⟨_, rfl, A, rfl⟩
  rotate_left
  · exact ⟨A, 0, rfl, RdS.nil 0 (Nat.zero_le _)⟩
  rcases ho.2 with ⟨rfl, hn⟩ | ⟨g, cap, cur, rfl, hg, hh, hc, hm, hs, ht⟩
  · obtain rfl := List.eq_nil_of_length_eq_zero hn
    exact ⟨none, 0, rfl, RdS.nil0⟩
  · refine ⟨some ⟨g, 0, none⟩, cap, rfl, hc, hm, inner, hl.rd, fun _ => ⟨_, rfl, ?_⟩⟩
    intro j u hu
    exact ho.cells (g := g) rfl j u hu
theorem OwnS.in (h : OwnS d e B w fp v xs) : ∀ b ∈ fp, B ≤ b ∧ b < w.heap.size := by
  rcases h with ⟨fi, inner, rfl, ho, hl⟩ | ⟨rfl, rfl, A, rfl⟩
  rotate_left
  · intro b hb; cases hb
  intro k hk
  rcases List.mem_append.1 hk with h | h
  · exact ho.lt k (mem_toList.1 h)
  · exact hl.in k h
theorem OwnS.keep (h : OwnS d e B w fp v xs) (hk : ∀ b ∈ fp, w'.heap[b]? = w.heap[b]?) : OwnS d e B w' fp v xs := by
  rcases h with ⟨fi, inner, rfl, ho, hl⟩ | ⟨rfl, rfl, A, rfl⟩
  rotate_left
  · exact .inr ⟨rfl, rfl, A, rfl⟩
  exact .inl ⟨fi, inner, rfl, owns_move ho (fun k e => hk k (List.mem_append_left _ (mem_toList.2 e))), hl.keep (fun k h => hk k (List.mem_append_right _ h))⟩
theorem OwnS.lift (h : OwnS d e B w fp v xs) (hk : ∀ b ∈ fp, B' ≤ b) : OwnS d e B' w fp v xs := by
  rcases h with ⟨fi, inner, rfl, ho, hl⟩ | ⟨rfl, rfl, A, rfl⟩
  rotate_left
  · exact .inr ⟨rfl, rfl, A, rfl⟩
  exact .inl ⟨fi, inner, rfl, owns_lift ho (fun k e => hk k (List.mem_append_left _ (mem_toList.2 e))), hl.lift (fun k h => hk k (List.mem_append_right _ h))⟩
end

/-- Slices of a kind. -/
def slice {α : Type} (e : TypeId) (d : Kd α) : Kd (List α) where
  sz := 1
  Rd w cs xs := ∃ A c, cs = [.slice A xs.length c] ∧ RdS d w A c xs
  Own B w fp cs xs := ∃ v, cs = [v] ∧ OwnS d e B w fp v xs
  rd_len := by rintro w cs x ⟨A, c, rfl, h⟩; rfl
  rd_one := by rintro w cs x ⟨A, c, rfl, h⟩ u hu; simp at hu; subst hu; rfl
  rd_below := by rintro w w' cs x ⟨A, c, rfl, h⟩ hb; exact ⟨A, c, rfl, h.below hb⟩
  own_rd := by
    rintro B w fp cs x ⟨v, rfl, h⟩
    obtain ⟨A, c, rfl, hr⟩ := h.form
    exact ⟨A, c, rfl, hr⟩
  own_in := by rintro B w fp cs x ⟨v, rfl, h⟩; exact h.in
  own_keep := by rintro B w w' fp cs x ⟨v, rfl, h⟩ hk; exact ⟨v, rfl, h.keep hk⟩
  own_lift := by rintro B B' w fp cs x ⟨v, rfl, h⟩ hk; exact ⟨v, rfl, h.lift hk⟩

/-- A value reads as x. -/
def RdV {α : Type} (d : Kd α) (w : World) (v : Value) (x : α) : Prop := d.Rd w v.cells.toList x
/-- Behind p lies x. -/
def At {α : Type} (d : Kd α) (w : World) (p : Addr) (x : α) : Prop := ∃ cs, Lies w p cs ∧ d.Rd w cs x
/-- v is new since w: x, all of it in blocks of its own. -/
def New {α : Type} (d : Kd α) (w w' : World) (v : Value) (x : α) : Prop := ∃ fp, fp.Nodup ∧ d.Own w.heap.size w' fp v.cells.toList x
theorem At.below {α : Type} {d : Kd α} {w w' : World} {p : Addr} {x : α} (h : At d w p x) (hb : Below w.heap.size w w') : At d w' p x := by
  obtain ⟨cs, h1, h2⟩ := h
  exact ⟨cs, h1.below hb, d.rd_below h2 hb⟩
theorem RdS.at_ {α : Type} {d : Kd α} {w : World} {A : Option Addr} {c : Nat} {xs : List α} (h : RdS d w A c xs) {k : Nat} (hk : k < xs.length) : ∃ a, A = some a ∧ At d w (a.add (k * d.sz)) xs[k] := by
  obtain ⟨a, cs, e, l, r⟩ := h.at (List.getElem?_eq_getElem hk)
  exact ⟨a, e, cs, l, r⟩
/-! ### what is below -/
theorem below_trans {w w1 w2 : World} (h : Below w.heap.size w w1) (h2 : Below w1.heap.size w1 w2) : Below w.heap.size w w2 := h.trans (h2.mono h.size)
theorem below_alloc {w w1 : World} (h : Below w.heap.size w w1) (o : Obj) : Below w.heap.size w (w1.alloc o) := h.alloc h.size o
theorem below_set {w w1 : World} (h : Below w.heap.size w w1) {p : Addr} (hp : w.heap.size ≤ p.block) (u : Value) : Below w.heap.size w (w1.setCell p u) := h.setCell hp u
theorem below_drewN {w w1 : World} (h : Below w.heap.size w w1) (n : Nat) : Below w.heap.size w (w1.drewN n) := by
  induction n with
  | zero => exact h
  | succ n ih => rw [← World.drew_drewN]; exact ih.drew
theorem bcell {W w1 : World} (hb : Below W.heap.size W w1) : (∀ b o, b < W.heap.size → w1.cell? ⟨b, o, none⟩ = W.cell? ⟨b, o, none⟩) ∧ (∀ b o, b < W.heap.size → w1.frozen? ⟨b, o, none⟩ = W.frozen? ⟨b, o, none⟩) :=
  ⟨fun b o h => hb.cell (p := ⟨b, o, none⟩) h, fun b o h => hb.frozen (p := ⟨b, o, none⟩) h⟩
theorem bcz {W w1 : World} (hb : Below W.heap.size W w1) : (∀ b o, b < W.heap.size → w1.cell? ⟨b, o, none⟩ = W.cell? ⟨b, o, none⟩) ∧ W.heap.size ≤ w1.heap.size := ⟨(bcell hb).1, hb.size⟩
theorem ret_int {k : IntKind} {a b : Int} (h : a = b) : Ending.returned (.int k a) = .returned (.int k b) := by rw [h]
theorem ret_bool {a b : Bool} (h : a = b) : Ending.returned (.bool a) = .returned (.bool b) := by rw [h]
theorem Lies.load (P : Program) {w : World} {p : Addr} {cs : List Value} (h : Lies w p cs) (k : Nat) (hk : cs.length = k) : Sem.run P (loadCellsFrom p 0 k #[]) w = .ok cs.toArray w :=
  Go.Proofs.run_loadCellsFrom_list P w p cs k hk h
/-- The first place at which p says yes; -1: none. -/
def idx {α : Type} (p : α → Bool) (xs : List α) : Int := match xs.findIdx? p with | some k => k | none => -1
theorem idx_yes {α : Type} {p : α → Bool} {xs : List α} {k : Nat} (hk : k < xs.length) (hy : p xs[k] = true) (hn : (xs.take k).any p = false) : idx p xs = k := by
  have : xs.findIdx? p = some k := by
    rw [List.findIdx?_eq_some_iff_getElem]
    refine ⟨hk, hy, fun j hj => ?_⟩
    have := List.any_eq_false.1 hn xs[j] (List.mem_take_iff_getElem.2 ⟨j, by omega, rfl⟩)
    simpa using this
  simp [idx, this]
theorem idx_none {α : Type} {p : α → Bool} {xs : List α} (hn : xs.any p = false) : idx p xs = -1 := by
  have : xs.findIdx? p = none := by
    rw [List.findIdx?_eq_none_iff]
    intro x hx
    have := List.any_eq_false.1 hn x hx
    simpa using this
  simp [idx, this]
theorem idx_ge {α : Type} (p : α → Bool) (xs : List α) : decide (0 ≤ idx p xs) = xs.any p := by
  cases h : xs.any p with
  | false => rw [idx_none h]; decide
  | true =>
    unfold idx
    cases hf : xs.findIdx? p with
    | none =>
      rw [List.findIdx?_eq_none_iff] at hf
      obtain ⟨x, hx, hp⟩ := List.any_eq_true.1 h
      rw [hf x hx] at hp; cases hp
    | some k => simp
theorem any_take_succ {α : Type} {p : α → Bool} {xs : List α} {k : Nat} (hk : k < xs.length) : (xs.take (k + 1)).any p = ((xs.take k).any p || p (xs[k]'hk)) := by
  have h := List.take_succ_eq_append_getElem hk
  rw [h, List.any_append]
  simp
end Mk
