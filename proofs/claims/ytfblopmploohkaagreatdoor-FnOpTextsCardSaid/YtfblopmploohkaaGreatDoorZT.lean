/- Rows of strings: what the laws' functions come to (own work). -/
import Derived.Test.YtfblopmploohkaaGreatDoorZTy
import Derived.Test.YtfblopmploohkaaGreatDoorZRo
import Derived.Test.YtfblopmploohkaaGreatDoorZW
import Derived.Test.YtfblopmploohkaaGreatDoorProg
import Derived.Lib.SplitLaws
import Derived.Shelf.Strings.SplitShaped
import Derived.Ground.NamesProg
set_option linter.unusedVariables false
set_option linter.unusedSimpArgs false
namespace Go.Proofs.YtfblopmploohkaaGreatDoor
open Go Go.RowKit Mk
theorem ownS_rdsT {α : Type} {d : Kd α} {e : TypeId} {B : Nat} {w : World} {fp : List Nat} {A : Option Addr} {n c : Nat} {xs : List α} (h : OwnS d e B w fp (.slice A n c) xs) : RdS d w A c xs := by
  obtain ⟨A', c', h1, h2⟩ := h.form
  injection h1 with a b c
  subst a; subst c; exact h2
theorem flat_str : Flat kStr := fun _ _ _ _ h => ⟨rfl, h⟩
theorem atStr {w : World} {p : Addr} {x : ByteArray} (h : At kStr w p x) : w.cell? p = some (.string x) := by
  obtain ⟨cs, hl, hcs⟩ := h
  obtain rfl : cs = [Value.string x] := hcs
  exact hl.c0
/-- The digits of k ahead of acc. -/
def digB : Nat → Nat → ByteArray → ByteArray
  | 0, _, acc => acc
  | f + 1, k, acc => if k = 0 then acc else digB f (k / 10) (⟨#[UInt8.ofNat (48 + k % 10)]⟩ ++ acc)
def mText (k : Nat) : ByteArray := if k = 0 then "m0".toUTF8 else "m".toUTF8 ++ digB (k + 1) k ByteArray.empty
theorem conv1 (W : World) (x : Int) : Sem.run Tryz.prog (convert 22 9 (.slice (some ⟨W.heap.size, 0, none⟩) 1 1)) (W.alloc (.cells #[.int .u8 x] 5)) = .ok (.string (ByteArray.empty.push (UInt8.ofNat x.toNat))) (W.alloc (.cells #[.int .u8 x] 5)) := by
  rw [run_convert_bytes_string (W.alloc (.cells #[.int .u8 x] 5)) 22 9 5 (some ⟨W.heap.size, 0, none⟩) 1 1 (by kernel_rfl) (by kernel_rfl) (by kernel_rfl)]
  have hl : Lies (W.alloc (.cells #[.int .u8 x] 5)) ⟨W.heap.size, 0, none⟩ [.int .u8 x] := lies_alloc W #[.int .u8 x] 5
  exact run_bytesToString (W.alloc (.cells #[.int .u8 x] 5)) ⟨W.heap.size, 0, none⟩ 1 1 [x] (hl.load Tryz.prog 1 rfl)
def mkS (k : Int) (x : ByteArray) : ByteArray := mText k.toNat
def ctS (x : ByteArray) : Nat := 1
def mkSs : Nat → List ByteArray → List ByteArray
  | _, [] => []
  | k, _ :: xs => mText k :: mkSs (k + 1) xs
theorem mkSs_len : ∀ (k : Nat) (xs : List ByteArray), (mkSs k xs).length = xs.length
  | _, [] => rfl
  | k, x :: xs => by simp [mkSs, mkSs_len]
theorem mkSs_append : ∀ (k : Nat) (xs ys : List ByteArray), mkSs k (xs ++ ys) = mkSs k xs ++ mkSs (k + xs.length) ys
  | k, [], ys => by simp [mkSs]
  | k, x :: xs, ys => by simp [mkSs, mkSs_append (k + 1) xs ys, Nat.add_assoc, Nat.add_comm 1]
theorem mkSs_take (k : Nat) (xs : List ByteArray) (m : Nat) (h : m < xs.length) (ys : List ByteArray) : mkSs k (xs.take (m + 1)) ++ ys = mkSs k (xs.take m) ++ mText (k + m) :: ys := by
  rw [List.take_succ_eq_append_getElem h, mkSs_append]
  simp [mkSs, List.length_take, Nat.min_eq_left (Nat.le_of_lt h)]
theorem mkSs_get (k : Nat) (xs : List ByteArray) (m : Nat) (h : m < xs.length) : (mkSs k xs)[m]'(by rw [mkSs_len]; exact h) = mText (k + m) := by
  have e := mkSs_take k xs m h (mkSs (k + (m + 1)) (xs.drop (m + 1)))
  have e3 : mkSs k xs = mkSs k (xs.take (m + 1)) ++ mkSs (k + (m + 1)) (xs.drop (m + 1)) := by
    conv => lhs; rw [← List.take_append_drop (m + 1) xs]
    rw [mkSs_append, List.length_take, Nat.min_eq_left h]
  simp only [e3, e]
  rw [List.getElem_append_right (by rw [mkSs_len, List.length_take]; omega)]
  simp [mkSs_len, List.length_take, Nat.min_eq_left (Nat.le_of_lt h)]
end Go.Proofs.YtfblopmploohkaaGreatDoor

/- A text cut at a byte, plainly (own work). -/
set_option linter.unusedVariables false
set_option linter.unusedSimpArgs false
namespace Go.Proofs.YtfblopmploohkaaGreatDoor
open Go Go.RowKit Mk
def hd (p : List UInt8) : List (List UInt8) → List (List UInt8)
  | [] => []
  | x :: xs => (p ++ x) :: xs
def cutL (c : UInt8) : List UInt8 → List (List UInt8)
  | [] => [[]]
  | b :: l => if b = c then [] :: cutL c l else hd [b] (cutL c l)
theorem hd_hd (p q : List UInt8) (X : List (List UInt8)) : hd p (hd q X) = hd (p ++ q) X := by cases X <;> simp [hd]
theorem cutL_ne (c : UInt8) : ∀ l, cutL c l ≠ []
  | [] => by simp [cutL]
  | b :: l => by
    unfold cutL
    split
    · simp
    · have := cutL_ne c l
      cases h : cutL c l with
      | nil => exact absurd h this
      | cons x xs => simp [hd]
theorem hd_nil (X : List (List UInt8)) : hd [] X = X := by cases X <;> simp [hd]
theorem cutL_len (c : UInt8) : ∀ l, (cutL c l).length ≤ l.length + 1
  | [] => by simp [cutL]
  | b :: l => by
    have := cutL_len c l
    unfold cutL
    split
    · simp; omega
    · cases h : cutL c l with
      | nil => simp [hd]
      | cons x xs => rw [h] at this; simp [hd] at this ⊢; omega
theorem splitK_eq (c : UInt8) (k : Nat) (l : List UInt8) : Lib.splitK [c] 0 (k + 1) (c :: l) = [] :: Lib.splitK [c] 0 k l := by
  have hi : Lib.index (c :: l) [c] = 0 := by rw [Lib.index_one]; simp [Lib.indexByte]
  rw [Lib.splitK, hi]
  simp
theorem splitK_ne (b c : UInt8) (h : b ≠ c) (k : Nat) (l : List UInt8) : Lib.splitK [c] 0 k (b :: l) = hd [b] (Lib.splitK [c] 0 k l) := by
  cases k with
  | zero => rfl
  | succ k =>
    have hi : Lib.index (b :: l) [c] = if Lib.index l [c] == -1 then -1 else Lib.index l [c] + 1 := by
      rw [Lib.index_one, Lib.index_one]
      conv => lhs; unfold Lib.indexByte
      rw [if_neg (by simpa using h)]
    have hge := Lib.index_ge l [c]
    rw [Lib.splitK, hi, Lib.splitK]
    by_cases hm : Lib.index l [c] = -1
    · rw [hm]; rfl
    · have hb : (Lib.index l [c] == -1) = false := by simpa using hm
      rw [hb]
      simp only [Bool.false_eq_true, if_false]
      have hb2 : (Lib.index l [c] + 1 == -1) = false := by simp; omega
      rw [hb2]
      simp only [Bool.false_eq_true, if_false, hd, Nat.add_zero, List.length_singleton]
      rw [show (Lib.index l [c] + 1).toNat = (Lib.index l [c]).toNat + 1 by omega]
      rfl
theorem split_cut (c : UInt8) : ∀ l, Lib.splitK [c] 0 (Lib.count l [c]) l = cutL c l
  | [] => by
    have : Lib.count [] [c] = 0 := by rw [Lib.count_one]; rfl
    rw [this]; rfl
  | b :: l => by
    by_cases h : b = c
    · subst h
      rw [Lib.count_cons_eq, Nat.add_comm, splitK_eq, split_cut b l]
      simp [cutL]
    · rw [Lib.count_cons_ne b c l h, splitK_ne b c h, split_cut c l]
      simp [cutL, h]
def toB (l : List UInt8) : ByteArray := ⟨l.toArray⟩
theorem toB_list (s : ByteArray) : toB s.data.toList = s := by cases s; simp [toB]
theorem map_toB (xs : List ByteArray) : (xs.map (·.data.toList)).map toB = xs := by
  rw [List.map_map]
  conv => rhs; rw [← List.map_id xs]
  exact List.map_congr_left fun x _ => toB_list x
/-- The words of a text. -/
def wordsB (s : ByteArray) : List ByteArray := ((cutL 32 s.data.toList).map toB).filter (fun x => !x.toList.isEmpty)
theorem wordsB_len (s : ByteArray) : (wordsB s).length ≤ s.size + 1 := by
  unfold wordsB
  refine Nat.le_trans (List.length_filter_le _ _) ?_
  rw [List.length_map]
  exact cutL_len 32 s.data.toList
theorem splitB_cut (s : ByteArray) : Lib.splitB ⟨#[32]⟩ 0 (Lib.countB s ⟨#[32]⟩) s = (cutL 32 s.data.toList).map toB := by
  have h := Lib.splitB_data ⟨#[32]⟩ 0 (Lib.countB s ⟨#[32]⟩) s
  rw [show Lib.countB s ⟨#[32]⟩ = Lib.count s.data.toList [32] from rfl] at h ⊢
  rw [show (⟨#[32]⟩ : ByteArray).data.toList = [32] from rfl, split_cut] at h
  rw [← h, map_toB]
/-- The piece from f to i. -/
def pre (l : List UInt8) (f i : Nat) : List UInt8 := (l.drop f).take (i - f)
theorem pre_nil (l : List UInt8) (i : Nat) : pre l i i = [] := by simp [pre]
theorem pre_succ (l : List UInt8) (f i : Nat) (hf : f ≤ i) (hi : i < l.length) : pre l f (i + 1) = pre l f i ++ [l[i]] := by
  unfold pre
  rw [show i + 1 - f = (i - f) + 1 by omega, List.take_succ_eq_append_getElem (by rw [List.length_drop]; omega)]
  congr 1
  simp [List.getElem_drop, Nat.add_sub_cancel' hf]
theorem toB_pre (s : ByteArray) (f i : Nat) : toB (pre s.data.toList f i) = s.extract f i := by
  rw [← toB_list (s.extract f i), Lib.extract_data]
  rfl
/-- What is cut so far, and the rest. -/
def CutAt (s : ByteArray) (f i : Nat) (ps : List ByteArray) : Prop := ps ++ (hd (pre s.data.toList f i) (cutL 32 (s.data.toList.drop i))).map toB = (cutL 32 s.data.toList).map toB
theorem CutAt.start (s : ByteArray) : CutAt s 0 0 [] := by simp [CutAt, pre, hd_nil]
theorem CutAt.cut {s : ByteArray} {f i : Nat} {ps : List ByteArray} (h : CutAt s f i ps) (hi : i < s.data.toList.length) (hb : s.data.toList[i] = 32) : CutAt s (i + 1) (i + 1) (ps ++ [s.extract f i]) := by
  unfold CutAt at h ⊢
  rw [List.drop_eq_getElem_cons hi, hb] at h
  rw [pre_nil, hd_nil, ← toB_pre]
  simpa [cutL, hd] using h
theorem CutAt.go {s : ByteArray} {f i : Nat} {ps : List ByteArray} (h : CutAt s f i ps) (hf : f ≤ i) (hi : i < s.data.toList.length) (hb : s.data.toList[i] ≠ 32) : CutAt s f (i + 1) ps := by
  unfold CutAt at h ⊢
  rw [List.drop_eq_getElem_cons hi] at h
  rw [cutL, if_neg hb, hd_hd] at h
  rw [pre_succ _ _ _ hf hi]
  exact h
theorem CutAt.last {s : ByteArray} {f : Nat} {ps : List ByteArray} (h : CutAt s f s.data.toList.length ps) : ps ++ [s.extract f s.data.toList.length] = (cutL 32 s.data.toList).map toB := by
  unfold CutAt at h
  rw [List.drop_length] at h
  rw [← toB_pre]
  simpa [cutL, hd] using h
end Go.Proofs.YtfblopmploohkaaGreatDoor

/- The reference's words of a text (own work). -/
set_option linter.unusedVariables false
set_option linter.unusedSimpArgs false
namespace Go.Proofs.YtfblopmploohkaaGreatDoor
open Go Go.RowKit Mk
theorem rdS_one (w : World) (x : ByteArray) : RdS kStr (w.alloc (.cells #[.string x] 9)) (some ⟨w.heap.size, 0, none⟩) 1 [x] :=
  ⟨by simp, by unfold maxLen; omega, [.string x], ⟨[.string x], [], rfl, rfl, rfl⟩, fun _ => ⟨_, rfl, lies_alloc w #[.string x] 9⟩⟩
/-- A row of strings that a call laid. -/
def LaidStrs (xs : List ByteArray) (w : World) (r : Ending) (w' : World) : Prop := ∃ A c f, r = .returned (.slice A xs.length c) ∧ OwnS kStr 9 w.heap.size w' f (.slice A xs.length c) xs ∧ f.Nodup ∧ Below w.heap.size w w'
end Go.Proofs.YtfblopmploohkaaGreatDoor

/- The ground of the library's contracts at this seat, laid (printed by mklay.py, own work). -/
set_option linter.unusedVariables false
namespace Go.Proofs.YtfblopmploohkaaGreatDoor
open Go Go.Shelf Go.Proofs
def splitL_ren : Go.Shelf.Ren := ⟨fun | 146 => 50 | 221 => 80 | 268 => 113 | 138 => 114 | 143 => 64 | 195 => 147 | 197 => 148 | 218 => 149 | 219 => 86 | 260 => 175 | 217 => 121 | 225 => 122 | 224 => 123 | 267 => 124 | 266 => 155 | 314 => 156 | n => n, fun | 9 => 9 | 31 => 41 | 3 => 3 | 4 => 4 | 0 => 0 | 105 => 202 | 21 => 21 | 5 => 5 | 46 => 170 | 119 => 246 | 139 => 249 | 138 => 248 | 146 => 210 | 51 => 206 | n => n, fun | 1 => 0 | 3 => 2 | 4 => 3 | n => n⟩
theorem splitL : Go.Proofs.LaysM.n146 Tryz.prog splitL_ren := {
  mixed := by kernel_rfl,
  f138 := Tryz.func114.trans (congrArg some (by kernel_rfl)),
  f143 := Tryz.func64.trans (congrArg some (by kernel_rfl)),
  f146 := Tryz.func50.trans (congrArg some (by kernel_rfl)),
  f195 := Tryz.func147.trans (congrArg some (by kernel_rfl)),
  f197 := Tryz.func148.trans (congrArg some (by kernel_rfl)),
  f217 := Tryz.func121.trans (congrArg some (by kernel_rfl)),
  f218 := Tryz.func149.trans (congrArg some (by kernel_rfl)),
  f219 := Tryz.func86.trans (congrArg some (by kernel_rfl)),
  f221 := Tryz.func80.trans (congrArg some (by kernel_rfl)),
  f224 := Tryz.func123.trans (congrArg some (by kernel_rfl)),
  f225 := Tryz.func122.trans (congrArg some (by kernel_rfl)),
  f260 := Tryz.func175.trans (congrArg some (by kernel_rfl)),
  f266 := Tryz.func155.trans (congrArg some (by kernel_rfl)),
  f267 := Tryz.func124.trans (congrArg some (by kernel_rfl)),
  f268 := Tryz.func113.trans (congrArg some (by kernel_rfl)),
  f314 := Tryz.func156.trans (congrArg some (by kernel_rfl)),
  t0 := Tryz.underlying0,
  a0 := Tryz.isAgg0,
  z0 := Tryz.sizeOf0,
  v0 := Tryz.zeroValue0,
  t3 := Tryz.underlying3,
  a3 := Tryz.isAgg3,
  z3 := Tryz.sizeOf3,
  v3 := Tryz.zeroValue3,
  t4 := Tryz.underlying4,
  a4 := Tryz.isAgg4,
  z4 := Tryz.sizeOf4,
  v4 := Tryz.zeroValue4,
  t5 := Tryz.underlying5,
  a5 := Tryz.isAgg5,
  z5 := Tryz.sizeOf5,
  v5 := Tryz.zeroValue5,
  t9 := Tryz.underlying9,
  a9 := Tryz.isAgg9,
  z9 := Tryz.sizeOf9,
  v9 := Tryz.zeroValue9,
  t21 := Tryz.underlying21,
  a21 := Tryz.isAgg21,
  z21 := Tryz.sizeOf21,
  v21 := Tryz.zeroValue21,
  t31 := Tryz.underlying41,
  a31 := Tryz.isAgg41,
  z31 := Tryz.sizeOf41,
  v31 := Tryz.zeroValue41,
  t46 := Tryz.underlying170,
  a46 := Tryz.isAgg170,
  z46 := Tryz.sizeOf170,
  v46 := Tryz.zeroValue170,
  t51 := Tryz.underlying206,
  a51 := Tryz.isAgg206,
  z51 := Tryz.sizeOf206,
  v51 := Tryz.zeroValue206,
  t105 := Tryz.underlying202,
  a105 := Tryz.isAgg202,
  z105 := Tryz.sizeOf202,
  v105 := Tryz.zeroValue202,
  t119 := Tryz.underlying246,
  a119 := Tryz.isAgg246,
  z119 := Tryz.sizeOf246,
  t138 := Tryz.underlying248,
  a138 := Tryz.isAgg248,
  z138 := Tryz.sizeOf248,
  v138 := Tryz.zeroValue248,
  t139 := Tryz.underlying249,
  a139 := Tryz.isAgg249,
  z139 := Tryz.sizeOf249,
  v139 := Tryz.zeroValue249,
  t146 := Tryz.underlying210,
  a146 := Tryz.isAgg210,
  z146 := Tryz.sizeOf210,
  v146 := Tryz.zeroValue210,
  g1 := by kernel_rfl,
  g3 := by kernel_rfl,
  g4 := by kernel_rfl,
  i0 := by kernel_rfl,
  i3 := by kernel_rfl,
  i4 := by kernel_rfl,
  i5 := by kernel_rfl,
  i9 := by kernel_rfl,
  i21 := by kernel_rfl,
  i31 := by kernel_rfl,
  i46 := by kernel_rfl,
  i51 := by kernel_rfl,
  i105 := by kernel_rfl,
  i138 := by kernel_rfl,
  i139 := by kernel_rfl,
  i146 := by kernel_rfl,
  m1 := by kernel_rfl,
  s1_3 := fun w h => Go.Proofs.cell_of_shapedOpen_int (zero := #[.int .i64 0]) (t := 3) h (of_decide_eq_true (by kernel_rfl)) (by kernel_rfl) rfl (by kernel_rfl) (by kernel_rfl) Tryz.underlying3,
  m3 := by kernel_rfl,
  m4 := by kernel_rfl }
end Go.Proofs.YtfblopmploohkaaGreatDoor

/- The words of a text: the reference's and the program's (written by gT4.py, own work). -/
set_option linter.unusedVariables false
set_option linter.unusedSimpArgs false
namespace Go.Proofs.YtfblopmploohkaaGreatDoor
open Go Go.RowKit Mk
def neE (x : ByteArray) : Bool := !x.toList.isEmpty
theorem filt_succ (xs : List ByteArray) (k : Nat) (h : k < xs.length) : (xs.take (k + 1)).filter neE = (xs.take k).filter neE ++ (if neE xs[k] then [xs[k]] else []) := by
  rw [List.take_succ_eq_append_getElem h, List.filter_append]
  simp [List.filter_cons]
theorem shaped_below {w w' : World} (h : w.ShapedOpen Tryz.prog) (hb : Below w.heap.size w w') : w'.ShapedOpen Tryz.prog := h.keptBut (hb.frame (fun _ => False)) (fun p hp => hp.elim)
theorem rdL_strs (W : World) : ∀ xs : List ByteArray, RdL kStr W (xs.map Value.string) xs
  | [] => rfl
  | x :: xs => ⟨[.string x], _, rfl, rfl, rdL_strs W xs⟩
theorem cells_str (w : World) (xs : List ByteArray) (hx : xs.length ≤ 1048577) : OwnS kStr 9 w.heap.size (w.alloc (.cells (xs.map Value.string).toArray 9)) [w.heap.size] (.slice (some ⟨w.heap.size, 0, none⟩) xs.length xs.length) xs :=
  ownS_blk (blk_alloc w (xs.map Value.string) 9) (flat_str.row (rdL_strs _ xs)) (Nat.le_refl _) (by unfold maxLen; omega)
set_option maxRecDepth 100000 in
set_option maxHeartbeats 4000000 in
theorem pieces_c (s : ByteArray) (w : World) (hs : s.size ≤ 1048576) (hsh : w.ShapedOpen Tryz.prog) :
    Calls Tryz.prog 23 #[.string s] w fun r w' => LaidStrs (wordsB s) w r w' := by
  have hxl : ((cutL 32 s.data.toList).map toB).length ≤ 1048577 := by rw [List.length_map]; have := cutL_len 32 s.data.toList; rw [(Lib.size_eq s).symm] at this; omega
  have hX : ((cutL 32 s.data.toList).map toB).filter neE = wordsB s := rfl
  have hcnt : Lib.countB s ⟨#[32]⟩ + 1 = ((cutL 32 s.data.toList).map toB).length := by rw [← splitB_cut, Lib.splitB_all ⟨#[32]⟩ (by decide) 0 _ s rfl]
  have hW1 : Below w.heap.size w (w.alloc (.cells #[] 9)) := below_alloc (Below.refl _ _) _
  have hS : Calls Tryz.prog 50 #[.string s, .string ⟨#[32]⟩] (w.alloc (.cells #[] 9)) fun e w' => e = .returned (.slice (some ⟨(w.alloc (.cells #[] 9)).heap.size, 0, none⟩) (Lib.countB s ⟨#[32]⟩ + 1) (Lib.countB s ⟨#[32]⟩ + 1)) ∧ w' = (w.alloc (.cells #[] 9)).alloc (.cells ((Lib.splitB ⟨#[32]⟩ 0 (Lib.countB s ⟨#[32]⟩) s).map Value.string).toArray 9) := Any.strings_Split_shaped splitL s ⟨#[32]⟩ (w.alloc (.cells #[] 9)) (shaped_below hsh hW1) (by omega) (by decide)
  rw [hcnt, splitB_cut] at hS
  have HS := Lib.hid hS
  clear hcnt hS hsh
  generalize (cutL 32 s.data.toList).map toB = xs at hxl hX HS
  go_enter Tryz.func23, Tryz.ntmps23
  go_wp2_with fail
  refine HS.out.mono ?_
  rintro e w2 ⟨rfl, rfl⟩
  have oq := cells_str (w.alloc (.cells #[] 9)) xs hxl
  have o1 := OwnS.keep (w' := (w.alloc (.cells #[] 9)).alloc (.cells (xs.map Value.string).toArray 9)) (ownS_empty kStr w 9 (Nat.le_refl w.heap.size)) (fun b hm => Below.heap_alloc _ _ _ (by simp at hm; rw [hm, Deep.nblk_alloc]; omega))
  have n1 : [w.heap.size].Nodup := by simp
  have bw2 : Below w.heap.size w ((w.alloc (.cells #[] 9)).alloc (.cells (xs.map Value.string).toArray 9)) := below_alloc hW1 _
  obtain ⟨B2, hB2⟩ : ∃ B2, B2 = (w.alloc (.cells #[] 9)).heap.size := ⟨_, rfl⟩
  obtain ⟨PA, hPA⟩ : ∃ PA : Option Addr, PA = some ⟨(w.alloc (.cells #[] 9)).heap.size, 0, none⟩ := ⟨_, rfl⟩
  obtain ⟨fq, hfq⟩ : ∃ fq, fq = [(w.alloc (.cells #[] 9)).heap.size] := ⟨_, rfl⟩
  have dj : ∀ b ∈ [w.heap.size], b ∉ fq := fun b h1 h2 => by rw [hfq] at h2; simp only [List.mem_singleton] at h1 h2; rw [Deep.nblk_alloc] at h2; omega
  rw [← hPA, ← hfq, ← hB2] at oq
  rw [← hPA]
  clear hB2 hPA hfq HS hW1
  generalize (w.alloc (.cells #[] 9)).alloc (.cells (xs.map Value.string).toArray 9) = w2 at oq o1 bw2 ⊢
  go_wp2_with fail
  go_loopw [3, 10] (fun v i W => ∃ (k : Nat) (ws : List ByteArray) (G : Option Addr) (y : Nat) (fp : List Nat), k ≤ xs.length ∧ i = .int .i64 k ∧ v = .slice G ws.length y ∧ ws = (xs.take k).filter neE ∧ OwnS kStr 9 w.heap.size W fp (.slice G ws.length y) ws ∧ fp.Nodup ∧ Below w.heap.size w W ∧ OwnS kStr 9 B2 W fq (.slice PA xs.length xs.length) xs ∧ (∀ b ∈ fp, b ∉ fq)) (fun _ i _ => xs.length - (intOf i).toNat)
  case atStart => exact ⟨0, [], _, _, _, Nat.zero_le _, rfl, rfl, rfl, o1, n1, bw2, oq, dj⟩
  case round =>
    clear o1 n1 bw2 oq dj
    obtain ⟨k, ws, G, y, fp, hk, rfl, rfl, hws, ow, nd, hb, oq, dj⟩ := hrel
    have hwl : ws.length ≤ k := by rw [hws]; exact Nat.le_trans (List.length_filter_le _ _) (by rw [List.length_take]; omega)
    by_cases hlt : k < xs.length
    · have hlt' : (k : Int) < (xs.length : Int) := by omega
      have hfs := filt_succ xs k hlt
      rw [← hws] at hfs
      obtain ⟨p, ep, hx⟩ := (ownS_rdsT oq).at_ hlt
      subst ep
      simp only [show kStr.sz = 1 from rfl, Nat.mul_one] at hx
      generalize xs[k] = x at hx hfs
      have q0 := atStr hx
      clear hx hws
      cases hne : neE x with
      | false =>
        rw [hne, if_neg (by simp), List.append_nil] at hfs
        have he : x.toList.isEmpty = true := by simpa [neE] using hne
        have HF := Lib.hid hfs
        clear hne hfs
        go_wp2_with fail
        exact ⟨⟨k + 1, ws, G, y, fp, hlt, by go_num, rfl, HF.out.symm, ow, nd, hb, oq, dj⟩, by simp [intOf]; omega⟩
      | true =>
        rw [hne, if_pos rfl] at hfs
        have he : x.toList.isEmpty = false := by simpa [neE] using hne
        have HF := Lib.hid hfs
        have OW := OwnS.keep (w' := wr.alloc (.cells #[.string x] 9)) ow (fun b hm => Below.heap_alloc wr _ _ (ow.in b hm).2)
        have OQ := OwnS.keep (w' := wr.alloc (.cells #[.string x] 9)) oq (fun b hm => Below.heap_alloc wr _ _ (oq.in b hm).2)
        clear hne hfs
        go_wp2_with (refine wpList_appFlat (d := kStr) (zs := [x]) (ys := ws) (A := some ⟨wr.heap.size, 0, none⟩) (c := 1) (v := .slice G ws.length y) rfl (.tmp 16) (.tmp 18) 41 9 rfl (by kernel_rfl) (by kernel_rfl) flat_str (by simp [Act.eval, Act.put]) (by simp [Act.eval, Act.put]) OW nd (rdS_one wr x) (by simp; omega) (by rw [Deep.nblk_alloc]; have := hb.size; omega) ?_; intro v' w' fp' hgr; obtain ⟨g1, g2, g3, g4⟩ := hgr; obtain ⟨AA, cA, rfl, _⟩ := g1.form; have hbb : Below w.heap.size w w' := (below_alloc hb (.cells #[.string x] 9)).trans (g3.below (B := w.heap.size) (fun b hm => (ow.in b hm).1) (by rw [Deep.nblk_alloc]; have := hb.size; omega)))
        refine ⟨⟨k + 1, ws ++ [x], AA, cA, fp', hlt, by go_num, by simp, HF.out.symm, g1, g2, hbb, OQ.turn g3 (fun b h1 h2 => dj b h2 h1), fun b h1 h2 => ?_⟩, by simp [intOf]; omega⟩
        rcases g4 b h1 with h | h | h
        · exact dj b h h2
        · cases h
        · rw [Deep.nblk_alloc] at h; have := (oq.in b h2).2; omega
    · have hk' : k = xs.length := by omega
      subst hk'
      rw [List.take_length] at hws
      have HW := Lib.hid (hws.trans hX)
      clear hws
      go_wp2_with fail
      go_ret
      exact HW.out ▸ ⟨G, y, fp, rfl, ow, nd, hb⟩
end Go.Proofs.YtfblopmploohkaaGreatDoor

/- WordsOf: the program's, the reference's, and the law walked (written by gT5.py, own work). -/
set_option linter.unusedVariables false
set_option linter.unusedSimpArgs false
namespace Go.Proofs.YtfblopmploohkaaGreatDoor
open Go Go.RowKit Mk
theorem OwnS.belT {α : Type} {d : Kd α} {e : TypeId} {B : Nat} {w w' : World} {fp : List Nat} {v : Value} {xs : List α} (h : OwnS d e B w fp v xs) (hb : Below w.heap.size w w') : OwnS d e B w' fp v xs := OwnS.keep h (fun b hm => hb.block b (h.in b hm).2)
/-- A result of words that a call laid. -/
def LaidWR (xs : List ByteArray) (w : World) (r : Ending) (w' : World) : Prop := ∃ A c f, r = .returned (.agg #[.int .i64 0, .slice A xs.length c]) ∧ OwnS kStr 9 w.heap.size w' f (.slice A xs.length c) xs ∧ f.Nodup ∧ Below w.heap.size w w'
set_option maxRecDepth 100000 in
set_option maxHeartbeats 8000000 in
theorem iWordsOf_c (s : ByteArray) (w : World) (hs : s.size ≤ 1048576) (hsh : w.ShapedOpen Tryz.prog) :
    Calls Tryz.prog 10 #[.string s] w fun r w' => LaidWR (wordsB s) w r w' := by
  have HC := Lib.hid (fun (W : World) (hW : Below w.heap.size w W) => pieces_c s W hs (shaped_below hsh hW))
  generalize wordsB s = xs at HC
  go_enter Tryz.func10, Tryz.ntmps10
  go_upto_region 1 with fail
  refine at_world (fun W => Blk W w.heap.size 43 [.int .i64 0, .slice none 0 0] ∧ Below w.heap.size w W) ⟨blk_alloc w [.int .i64 0, .slice none 0 0] _, below_alloc (Below.refl _ _) _⟩ ?_
  rintro W1 ⟨zB, b1⟩
  have lz := zB.lt
  go_wp2_with fail
  refine (HC.out W1 b1).mono ?_
  rintro e w2 ⟨G, y, f, rfl, ow, nd, hb2⟩
  have z2 := zB.below hb2
  have r0 := z2.cell (j := 0) rfl
  have y0 := z2.frozen 0
  have r1 := z2.cell (j := 1) rfl
  have y1 := z2.frozen 1
  have bw : Below w.heap.size w w2 := below_trans b1 hb2
  clear zB z2 hb2 HC
  go_wp2_with fail
  refine bodyPost_ret (v := .agg #[.int .i64 0, .slice G xs.length y]) (by simp [results, Tryz.results10, go_sem, r0, r1]) rfl ⟨G, y, f, rfl, ?_, nd, by repeat (first | (with_reducible assumption) | (with_reducible exact Below.refl _ _) | (with_reducible apply below_alloc) | (with_reducible apply below_drewN) | (with_reducible apply Below.drew) | (with_reducible refine below_set ?_ (by dsimp only; omega) _) | (with_reducible refine below_trans ?_ (by assumption)))⟩
  refine OwnS.past (lo := W1.heap.size) (w := w2) ow ?_ (Nat.le_refl _) (by have := b1.size; omega)
  repeat (first | (with_reducible exact Past.refl _ _) | (with_reducible refine Past.set ?_ (by omega) _))
end Go.Proofs.YtfblopmploohkaaGreatDoor
