/- A text cut at a byte, plainly (own work). -/
import Derived.Test.YtnbenhkbcodlfaaDoorT1
import Derived.Lib.SplitLaws
set_option linter.unusedVariables false
set_option linter.unusedSimpArgs false
namespace Go.Proofs.YtnbenhkbcodlfaaDoor
open Go Go.RowKit Mk
def hd (p : List UInt8) : List (List UInt8) → List (List UInt8)
  | [] => []
  | x :: xs => (p ++ x) :: xs
def cutL (c : UInt8) : List UInt8 → List (List UInt8)
  | [] => [[]]
  | b :: l => if b = c then [] :: cutL c l else hd [b] (cutL c l)
theorem hd_hd (p q : List UInt8) (X : List (List UInt8)) : hd p (hd q X) = hd (p ++ q) X := by cases X <;> simp [hd]
theorem cutL_ne (c : UInt8) : ∀ l, cutL c l ≠ []
  | [] => by simp [cutL]
  | b :: l => by
    unfold cutL
    split
    · simp
    · have := cutL_ne c l
      cases h : cutL c l with
      | nil => exact absurd h this
      | cons x xs => simp [hd]
theorem hd_nil (X : List (List UInt8)) : hd [] X = X := by cases X <;> simp [hd]
theorem cutL_len (c : UInt8) : ∀ l, (cutL c l).length ≤ l.length + 1
  | [] => by simp [cutL]
  | b :: l => by
    have := cutL_len c l
    unfold cutL
    split
    · simp; omega
    · cases h : cutL c l with
      | nil => simp [hd]
      | cons x xs => rw [h] at this; simp [hd] at this ⊢; omega
theorem splitK_eq (c : UInt8) (k : Nat) (l : List UInt8) : Lib.splitK [c] 0 (k + 1) (c :: l) = [] :: Lib.splitK [c] 0 k l := by
  have hi : Lib.index (c :: l) [c] = 0 := by rw [Lib.index_one]; simp [Lib.indexByte]
  rw [Lib.splitK, hi]
  simp
theorem splitK_ne (b c : UInt8) (h : b ≠ c) (k : Nat) (l : List UInt8) : Lib.splitK [c] 0 k (b :: l) = hd [b] (Lib.splitK [c] 0 k l) := by
  cases k with
  | zero => rfl
  | succ k =>
    have hi : Lib.index (b :: l) [c] = if Lib.index l [c] == -1 then -1 else Lib.index l [c] + 1 := by
      rw [Lib.index_one, Lib.index_one]
      conv => lhs; unfold Lib.indexByte
      rw [if_neg (by simpa using h)]
    have hge := Lib.index_ge l [c]
    rw [Lib.splitK, hi, Lib.splitK]
    by_cases hm : Lib.index l [c] = -1
    · rw [hm]; rfl
    · have hb : (Lib.index l [c] == -1) = false := by simpa using hm
      rw [hb]
      simp only [Bool.false_eq_true, if_false]
      have hb2 : (Lib.index l [c] + 1 == -1) = false := by simp; omega
      rw [hb2]
      simp only [Bool.false_eq_true, if_false, hd, Nat.add_zero, List.length_singleton]
      rw [show (Lib.index l [c] + 1).toNat = (Lib.index l [c]).toNat + 1 by omega]
      rfl
theorem split_cut (c : UInt8) : ∀ l, Lib.splitK [c] 0 (Lib.count l [c]) l = cutL c l
  | [] => by
    have : Lib.count [] [c] = 0 := by rw [Lib.count_one]; rfl
    rw [this]; rfl
  | b :: l => by
    by_cases h : b = c
    · subst h
      rw [Lib.count_cons_eq, Nat.add_comm, splitK_eq, split_cut b l]
      simp [cutL]
    · rw [Lib.count_cons_ne b c l h, splitK_ne b c h, split_cut c l]
      simp [cutL, h]
def toB (l : List UInt8) : ByteArray := ⟨l.toArray⟩
theorem toB_list (s : ByteArray) : toB s.data.toList = s := by cases s; simp [toB]
theorem map_toB (xs : List ByteArray) : (xs.map (·.data.toList)).map toB = xs := by
  rw [List.map_map]
  conv => rhs; rw [← List.map_id xs]
  exact List.map_congr_left fun x _ => toB_list x
/-- The words of a text. -/
def wordsB (s : ByteArray) : List ByteArray := ((cutL 32 s.data.toList).map toB).filter (fun x => !x.toList.isEmpty)
theorem wordsB_len (s : ByteArray) : (wordsB s).length ≤ s.size + 1 := by
  unfold wordsB
  refine Nat.le_trans (List.length_filter_le _ _) ?_
  rw [List.length_map]
  exact cutL_len 32 s.data.toList
theorem splitB_cut (s : ByteArray) : Lib.splitB ⟨#[32]⟩ 0 (Lib.countB s ⟨#[32]⟩) s = (cutL 32 s.data.toList).map toB := by
  have h := Lib.splitB_data ⟨#[32]⟩ 0 (Lib.countB s ⟨#[32]⟩) s
  rw [show Lib.countB s ⟨#[32]⟩ = Lib.count s.data.toList [32] from rfl] at h ⊢
  rw [show (⟨#[32]⟩ : ByteArray).data.toList = [32] from rfl, split_cut] at h
  rw [← h, map_toB]
/-- The piece from f to i. -/
def pre (l : List UInt8) (f i : Nat) : List UInt8 := (l.drop f).take (i - f)
theorem pre_nil (l : List UInt8) (i : Nat) : pre l i i = [] := by simp [pre]
theorem pre_succ (l : List UInt8) (f i : Nat) (hf : f ≤ i) (hi : i < l.length) : pre l f (i + 1) = pre l f i ++ [l[i]] := by
  unfold pre
  rw [show i + 1 - f = (i - f) + 1 by omega, List.take_succ_eq_append_getElem (by rw [List.length_drop]; omega)]
  congr 1
  simp [List.getElem_drop, Nat.add_sub_cancel' hf]
theorem toB_pre (s : ByteArray) (f i : Nat) : toB (pre s.data.toList f i) = s.extract f i := by
  rw [← toB_list (s.extract f i), Lib.extract_data]
  rfl
/-- What is cut so far, and the rest. -/
def CutAt (s : ByteArray) (f i : Nat) (ps : List ByteArray) : Prop := ps ++ (hd (pre s.data.toList f i) (cutL 32 (s.data.toList.drop i))).map toB = (cutL 32 s.data.toList).map toB
theorem CutAt.start (s : ByteArray) : CutAt s 0 0 [] := by simp [CutAt, pre, hd_nil]
theorem CutAt.cut {s : ByteArray} {f i : Nat} {ps : List ByteArray} (h : CutAt s f i ps) (hi : i < s.data.toList.length) (hb : s.data.toList[i] = 32) : CutAt s (i + 1) (i + 1) (ps ++ [s.extract f i]) := by
  unfold CutAt at h ⊢
  rw [List.drop_eq_getElem_cons hi, hb] at h
  rw [pre_nil, hd_nil, ← toB_pre]
  simpa [cutL, hd] using h
theorem CutAt.go {s : ByteArray} {f i : Nat} {ps : List ByteArray} (h : CutAt s f i ps) (hf : f ≤ i) (hi : i < s.data.toList.length) (hb : s.data.toList[i] ≠ 32) : CutAt s f (i + 1) ps := by
  unfold CutAt at h ⊢
  rw [List.drop_eq_getElem_cons hi] at h
  rw [cutL, if_neg hb, hd_hd] at h
  rw [pre_succ _ _ _ hf hi]
  exact h
theorem CutAt.last {s : ByteArray} {f : Nat} {ps : List ByteArray} (h : CutAt s f s.data.toList.length ps) : ps ++ [s.extract f s.data.toList.length] = (cutL 32 s.data.toList).map toB := by
  unfold CutAt at h
  rw [List.drop_length] at h
  rw [← toB_pre]
  simpa [cutL, hd] using h
end Go.Proofs.YtnbenhkbcodlfaaDoor
