/- From an argument as the row gives it to a value that is read: kind by kind (own work; nothing of the program is named here). -/
import Derived.Test.YtfblopmploohkaaGreatDoorZMk
import Derived.Deep.Slices
import Derived.WideShapes
import Derived.Carry
set_option linter.unusedVariables false
set_option linter.unusedSimpArgs false
namespace Mk
open Go Go.RowKit
section
variable {P : Program} {t e : TypeId}
/-- Whatever a type's reading takes up, the kind reads. -/
def Opens {α : Type} (P : Program) (K : Kd α) (t : TypeId) : Prop :=
  ∀ (H : Type) (enc : TypeId × Value → H) (w : World) (base : Nat) (spare : Nat → Bool) (held : Bool) (fuel : Nat) (cs : List Value) (x : DataW H × List MemPlace),
    DataW.trod enc P w base spare held fuel t cs = some x → ∃ a, K.Rd w cs a
theorem opens_int (ht : P.underlying t = some (.int .i64)) : Opens P kInt t := by
  intro H enc w base spare held fuel cs x h
  obtain ⟨n, rfl, _⟩ := DataW.trod_int ht h
  exact ⟨n, rfl⟩
theorem opens_bool (ht : P.underlying t = some .bool) : Opens P kBool t := by
  intro H enc w base spare held fuel cs x h
  obtain ⟨n, rfl, _⟩ := DataW.trod_bool ht h
  exact ⟨n, rfl⟩
theorem opens_byte (ht : P.underlying t = some (.int .u8)) : Opens P kByte t := by
  intro H enc w base spare held fuel cs x h
  obtain ⟨n, rfl, _⟩ := DataW.trod_int ht h
  exact ⟨n, rfl⟩
theorem opens_str (ht : P.underlying t = some .string) : Opens P kStr t := by
  intro H enc w base spare held fuel cs x h
  obtain ⟨n, rfl, _⟩ := DataW.trod_string ht h
  exact ⟨n, rfl⟩
theorem rdL_of {α : Type} (d : Kd α) (w : World) : ∀ (n : Nat) (f : Nat → List Value), (∀ i, i < n → ∃ a, d.Rd w (f i) a) → ∃ xs : List α, xs.length = n ∧ RdL d w ((List.range n).flatMap f) xs
  | 0, f, h => ⟨[], rfl, rfl⟩
  | n + 1, f, h => by
    obtain ⟨a, ha⟩ := h 0 (by omega)
    obtain ⟨xs, hl, hx⟩ := rdL_of d w n (fun i => f (i + 1)) (fun i hi => h (i + 1) (by omega))
    refine ⟨a :: xs, by simp [hl], f 0, _, ?_, ha, hx⟩
    rw [List.range_succ_eq_map, List.flatMap_cons, List.flatMap_map]
theorem get_flat (s : Nat) : ∀ (n : Nat) (f : Nat → List Value) (j : Nat) (u : Value), (∀ i, i < n → (f i).length = s) → ((List.range n).flatMap f)[j]? = some u → ∃ i k, i < n ∧ k < s ∧ j = i * s + k ∧ (f i)[k]? = some u
  | 0, f, j, u, h, hu => by simp at hu
  | n + 1, f, j, u, h, hu => by
    rw [List.range_succ_eq_map, List.flatMap_cons, List.flatMap_map] at hu
    have h0 := h 0 (by omega)
    by_cases hj : j < (f 0).length
    · rw [List.getElem?_append_left hj] at hu
      exact ⟨0, j, by omega, by omega, by omega, hu⟩
    · rw [List.getElem?_append_right (by omega)] at hu
      obtain ⟨i, k, hi, hk, hjj, hf⟩ := get_flat s n (fun i => f (i + 1)) _ u (fun i hi => h (i + 1) (by omega)) hu
      exact ⟨i + 1, k, by omega, hk, by rw [Nat.succ_mul]; omega, hf⟩
theorem opens_slice {α : Type} {d : Kd α} (e' : TypeId) (ht : P.underlying t = some (.slice e)) (hc : P.cellsOf e = d.sz) (hd : Opens P d e) : Opens P (slice e' d) t := by
  intro H enc w base spare held fuel cs x h
  rcases DataW.trod_slice ht h with ⟨rfl, _⟩ | ⟨a, len, cap, elems, rest, n, _, rfl, rfl, hb, hl, hm, hlen, hel, hsp, hns⟩
  · exact ⟨[], none, 0, rfl, RdS.nil0⟩
  · have hx : ∀ i, i < len → ∃ c, c.length = d.sz ∧ (∀ k u, c[k]? = some u → w.cell? (a.add (i * d.sz + k)) = some u) ∧ ∃ y, d.Rd w c y := by
      intro i hi
      have h1 := hel i hi
      rw [hc, List.getElem?_eq_getElem (by omega)] at h1
      obtain ⟨c, h2, h3⟩ := Option.bind_eq_some_iff.1 h1
      obtain ⟨_, h4, h5⟩ := World.cells?_some h2
      refine ⟨c, h4, ?_, hd _ _ _ _ _ _ _ _ _ h3⟩
      intro k u hk
      have hk' := (List.getElem?_eq_some_iff.1 hk).1
      rw [← add_add, h5 k (by omega), hk]
    obtain ⟨f, hf⟩ : ∃ f : Nat → List Value, ∀ i, i < len → (f i).length = d.sz ∧ (∀ k u, (f i)[k]? = some u → w.cell? (a.add (i * d.sz + k)) = some u) ∧ ∃ y, d.Rd w (f i) y :=
      Classical.axiomOfChoice (r := fun i c => i < len → c.length = d.sz ∧ (∀ k u, c[k]? = some u → w.cell? (a.add (i * d.sz + k)) = some u) ∧ ∃ y, d.Rd w c y)
        (fun i => by
          by_cases hi : i < len
          · obtain ⟨c, hc⟩ := hx i hi; exact ⟨c, fun _ => hc⟩
          · exact ⟨[], fun h => absurd h hi⟩)
    obtain ⟨xs, hxl, hxs⟩ := rdL_of d w len f (fun i hi => (hf i hi).2.2)
    refine ⟨xs, some a, cap, by rw [hxl], by omega, hm, _, hxs, fun _ => ⟨a, rfl, ?_⟩⟩
    intro j u hu
    obtain ⟨i, k, hi, hk, rfl, hfu⟩ := get_flat d.sz len f j u (fun i hi => (hf i hi).1) hu
    exact (hf i hi).2.1 k u hfu
/-- The fields of a struct (their types, their places), from a place on. -/
def OpensF {α : Type} (P : Program) (K : Kd α) (off : Nat) (fs : List (TypeId × Nat)) : Prop :=
  ∀ (H : Type) (enc : TypeId × Value → H) (w : World) (base : Nat) (spare : Nat → Bool) (held : Bool) (n : Nat) (cs : List Value), cs.length = off + K.sz →
    (∀ f ∈ fs, ∃ y, DataW.trod enc P w base spare held n f.1 ((cs.drop f.2).take (P.cellsOf f.1)) = some y) → ∃ a, K.Rd w (cs.drop off) a
theorem opensF_one {α : Type} {K : Kd α} {off : Nat} (hc : P.cellsOf t = K.sz) (h : Opens P K t) : OpensF P K off [(t, off)] := by
  intro H enc w base spare held n cs hl hx
  obtain ⟨y, hy⟩ := hx (t, off) (by simp)
  have := h _ _ _ _ _ _ _ _ _ hy
  rwa [hc, List.take_of_length_le (by simp; omega)] at this
theorem opensF_cons {α β : Type} {K : Kd α} {L : Kd β} {off : Nat} {fs : List (TypeId × Nat)} (hc : P.cellsOf t = K.sz) (h : Opens P K t) (hs : OpensF P L (off + K.sz) fs) : OpensF P (pair K L) off ((t, off) :: fs) := by
  intro H enc w base spare held n cs hl hx
  obtain ⟨y, hy⟩ := hx (t, off) (by simp)
  obtain ⟨a, ha⟩ := h _ _ _ _ _ _ _ _ _ hy
  obtain ⟨b, hb⟩ := hs H enc w base spare held n cs (by rw [hl]; show off + (K.sz + L.sz) = _; omega) (fun g hg => hx g (by simp [hg]))
  rw [hc] at ha
  exact ⟨(a, b), _, _, by rw [← List.drop_drop, List.take_append_drop], ha, hb⟩
/-- A type is a struct with fields of these types at these places. -/
def structIs (P : Program) (t : TypeId) (ts : List (TypeId × Nat)) : Bool :=
  match P.underlying t with
  | some (.struct fs) => decide (fs.toList.map (fun f => (f.type, f.offset)) = ts)
  | _ => false
theorem opens_struct {α β : Type} {K : Kd α} {g : β → α} {ts : List (TypeId × Nat)} (ht : structIs P t ts = true) (hc : P.cellsOf t = K.sz) (hg : ∀ a, ∃ b, g b = a) (h : OpensF P K 0 ts) : Opens P (iso K g) t := by
  unfold structIs at ht
  split at ht
  · rename_i fs hfs
    have hts := of_decide_eq_true ht
    intro H enc w base spare held fuel cs x hx
    obtain ⟨xs, n, _, _, hl, hlen, hf⟩ := DataW.trod_struct hfs hx
    obtain ⟨a, ha⟩ := h H enc w base spare held n cs (by rw [hl, hc]; omega) (fun p hp => by
      rw [← hts] at hp
      obtain ⟨f, hf', rfl⟩ := List.mem_map.1 hp
      obtain ⟨i, hi, rfl⟩ := List.getElem_of_mem hf'
      have hi' : i < fs.size := by simpa using hi
      refine ⟨xs[i]'(by rw [hlen]; exact hi'), ?_⟩
      rw [hf i _ (by simp), List.getElem?_eq_getElem])
    obtain ⟨b, rfl⟩ := hg a
    exact ⟨b, ha⟩
  · cases ht
/-- An argument of the row: what is laid before the function reads as its kind. -/
theorem opens_arg {α : Type} {K : Kd α} (h : Opens P K t) {H : Type} {enc : TypeId × Value → H} {w : World} {base : Nat} {spare : Nat → Bool} {held : Bool} {v : Value} {d : DataW H} {ps : List MemPlace}
    (hv : DataW.Trod enc P w base spare held t v d ps) : ∃ a, RdV K w v a := by
  obtain ⟨fuel, hf⟩ := hv
  exact h _ _ _ _ _ _ _ _ _ hf
end
end Mk
