/- Rows of strings: what the laws' functions come to (own work). -/
import Derived.Test.YtdjfehjddfbbjaaGreatDoorTy
import Derived.Test.YtdjfehjddfbbjaaGreatDoorRo
import Derived.Test.YtdjfehjddfbbjaaGreatDoorMv
import Derived.Test.YtdjfehjddfbbjaaGreatDoorAp
import Derived.Test.YtdjfehjddfbbjaaGreatDoorMz
import Derived.Test.YtdjfehjddfbbjaaGreatDoorProg
set_option linter.unusedVariables false
set_option linter.unusedSimpArgs false
namespace Go.Proofs.YtdjfehjddfbbjaaGreatDoor
open Go Go.RowKit Mk
theorem ownS_rdsT {α : Type} {d : Kd α} {e : TypeId} {B : Nat} {w : World} {fp : List Nat} {A : Option Addr} {n c : Nat} {xs : List α} (h : OwnS d e B w fp (.slice A n c) xs) : RdS d w A c xs := by
  obtain ⟨A', c', h1, h2⟩ := h.form
  injection h1 with a b c
  subst a; subst c; exact h2
theorem flat_str : Flat kStr := fun _ _ _ _ h => ⟨rfl, h⟩
theorem atStr {w : World} {p : Addr} {x : ByteArray} (h : At kStr w p x) : w.cell? p = some (.string x) := by
  obtain ⟨cs, hl, hcs⟩ := h
  obtain rfl : cs = [Value.string x] := hcs
  exact hl.c0
/-- The digits of k ahead of acc. -/
def digB : Nat → Nat → ByteArray → ByteArray
  | 0, _, acc => acc
  | f + 1, k, acc => if k = 0 then acc else digB f (k / 10) (⟨#[UInt8.ofNat (48 + k % 10)]⟩ ++ acc)
def mText (k : Nat) : ByteArray := if k = 0 then "m0".toUTF8 else "m".toUTF8 ++ digB (k + 1) k ByteArray.empty
theorem conv1 (W : World) (x : Int) : Sem.run Tryz.prog (convert 125 9 (.slice (some ⟨W.heap.size, 0, none⟩) 1 1)) (W.alloc (.cells #[.int .u8 x] 5)) = .ok (.string (ByteArray.empty.push (UInt8.ofNat x.toNat))) (W.alloc (.cells #[.int .u8 x] 5)) := by
  rw [run_convert_bytes_string (W.alloc (.cells #[.int .u8 x] 5)) 125 9 5 (some ⟨W.heap.size, 0, none⟩) 1 1 (by kernel_rfl) (by kernel_rfl) (by kernel_rfl)]
  have hl : Lies (W.alloc (.cells #[.int .u8 x] 5)) ⟨W.heap.size, 0, none⟩ [.int .u8 x] := lies_alloc W #[.int .u8 x] 5
  exact run_bytesToString (W.alloc (.cells #[.int .u8 x] 5)) ⟨W.heap.size, 0, none⟩ 1 1 [x] (hl.load Tryz.prog 1 rfl)
def mkS (k : Int) (x : ByteArray) : ByteArray := mText k.toNat
def ctS (x : ByteArray) : Nat := 1
def mkSs : Nat → List ByteArray → List ByteArray
  | _, [] => []
  | k, _ :: xs => mText k :: mkSs (k + 1) xs
theorem mkSs_len : ∀ (k : Nat) (xs : List ByteArray), (mkSs k xs).length = xs.length
  | _, [] => rfl
  | k, x :: xs => by simp [mkSs, mkSs_len]
theorem mkSs_append : ∀ (k : Nat) (xs ys : List ByteArray), mkSs k (xs ++ ys) = mkSs k xs ++ mkSs (k + xs.length) ys
  | k, [], ys => by simp [mkSs]
  | k, x :: xs, ys => by simp [mkSs, mkSs_append (k + 1) xs ys, Nat.add_assoc, Nat.add_comm 1]
theorem mkSs_take (k : Nat) (xs : List ByteArray) (m : Nat) (h : m < xs.length) (ys : List ByteArray) : mkSs k (xs.take (m + 1)) ++ ys = mkSs k (xs.take m) ++ mText (k + m) :: ys := by
  rw [List.take_succ_eq_append_getElem h, mkSs_append]
  simp [mkSs, List.length_take, Nat.min_eq_left (Nat.le_of_lt h)]
theorem mkSs_get (k : Nat) (xs : List ByteArray) (m : Nat) (h : m < xs.length) : (mkSs k xs)[m]'(by rw [mkSs_len]; exact h) = mText (k + m) := by
  have e := mkSs_take k xs m h (mkSs (k + (m + 1)) (xs.drop (m + 1)))
  have e3 : mkSs k xs = mkSs k (xs.take (m + 1)) ++ mkSs (k + (m + 1)) (xs.drop (m + 1)) := by
    conv => lhs; rw [← List.take_append_drop (m + 1) xs]
    rw [mkSs_append, List.length_take, Nat.min_eq_left h]
  simp only [e3, e]
  rw [List.getElem_append_right (by rw [mkSs_len, List.length_take]; omega)]
  simp [mkSs_len, List.length_take, Nat.min_eq_left (Nat.le_of_lt h)]
end Go.Proofs.YtdjfehjddfbbjaaGreatDoor
