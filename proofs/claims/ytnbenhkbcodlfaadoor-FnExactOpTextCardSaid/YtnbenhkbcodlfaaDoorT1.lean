/- Rows of strings: what the laws' functions come to (own work). -/
import Derived.Test.YtnbenhkbcodlfaaDoorTy
import Derived.Test.YtnbenhkbcodlfaaDoorRo
import Derived.Test.YtnbenhkbcodlfaaDoorMv
import Derived.Test.YtnbenhkbcodlfaaDoorAp
import Derived.Test.YtnbenhkbcodlfaaDoorMz
import Derived.Test.YtnbenhkbcodlfaaDoorProg
set_option linter.unusedVariables false
set_option linter.unusedSimpArgs false
namespace Go.Proofs.YtnbenhkbcodlfaaDoor
open Go Go.RowKit Mk
theorem ownS_rdsT {α : Type} {d : Kd α} {e : TypeId} {B : Nat} {w : World} {fp : List Nat} {A : Option Addr} {n c : Nat} {xs : List α} (h : OwnS d e B w fp (.slice A n c) xs) : RdS d w A c xs := by
  obtain ⟨A', c', h1, h2⟩ := h.form
  injection h1 with a b c
  subst a; subst c; exact h2
theorem flat_str : Flat kStr := fun _ _ _ _ h => ⟨rfl, h⟩
theorem atStr {w : World} {p : Addr} {x : ByteArray} (h : At kStr w p x) : w.cell? p = some (.string x) := by
  obtain ⟨cs, hl, hcs⟩ := h
  obtain rfl : cs = [Value.string x] := hcs
  exact hl.c0
set_option maxRecDepth 100000 in
set_option maxHeartbeats 1000000 in
theorem eqStringS_c (xs : List ByteArray) (A : Option Addr) (c : Nat) (B : Option Addr) (d : Nat) (w : World) (h : RdS kStr w A c xs) (h' : RdS kStr w B d xs) :
    Calls Tryd.prog 16 #[.slice A xs.length c, .slice B xs.length d] w fun e w' => e = .returned (.bool true) ∧ Below w.heap.size w w' := by
  have hn := h.le63
  go_enter Tryd.func16, Tryd.ntmps16
  go_wp2_with fail
  go_loopw [5] (fun i W => ∃ k : Nat, k ≤ xs.length ∧ i = .int .i64 k ∧ Below w.heap.size w W) (fun i _ => xs.length - (intOf i).toNat)
  case atStart => exact ⟨0, Nat.zero_le _, rfl, Below.refl _ _⟩
  case round =>
    obtain ⟨k, hk, rfl, hb⟩ := hrel
    by_cases hlt : k < xs.length
    · have hlt' : (k : Int) < (xs.length : Int) := by omega
      obtain ⟨a, ea, hx⟩ := (h.below hb).at_ hlt
      obtain ⟨b, eb, hy⟩ := (h'.below hb).at_ hlt
      subst ea
      subst eb
      simp only [show kStr.sz = 1 from rfl, Nat.mul_one] at hx hy
      generalize xs[k] = x at hx hy
      have q0 := atStr hx
      have p0 := atStr hy
      clear hx hy
      go_wp2_with fail
      go_quiet (fail)
      go_wp2_with fail
      exact ⟨⟨k + 1, hlt, by go_num, by repeat (first | (with_reducible assumption) | (with_reducible exact Below.refl _ _) | (with_reducible apply below_alloc) | (with_reducible apply below_drewN) | (with_reducible apply Below.drew) | (with_reducible refine below_set ?_ (by dsimp only; omega) _) | (with_reducible refine below_trans ?_ (by assumption)))⟩, by simp [intOf]; omega⟩
    · have hk' : k = xs.length := by omega
      subst hk'
      go_wp2
      go_ret; exact ⟨rfl, hb⟩
/-- The digits of k ahead of acc. -/
def digB : Nat → Nat → ByteArray → ByteArray
  | 0, _, acc => acc
  | f + 1, k, acc => if k = 0 then acc else digB f (k / 10) (⟨#[UInt8.ofNat (48 + k % 10)]⟩ ++ acc)
def mText (k : Nat) : ByteArray := if k = 0 then "m0".toUTF8 else "m".toUTF8 ++ digB (k + 1) k ByteArray.empty
theorem conv1 (W : World) (x : Int) : Sem.run Tryd.prog (convert 55 9 (.slice (some ⟨W.heap.size, 0, none⟩) 1 1)) (W.alloc (.cells #[.int .u8 x] 5)) = .ok (.string (ByteArray.empty.push (UInt8.ofNat x.toNat))) (W.alloc (.cells #[.int .u8 x] 5)) := by
  rw [run_convert_bytes_string (W.alloc (.cells #[.int .u8 x] 5)) 55 9 5 (some ⟨W.heap.size, 0, none⟩) 1 1 (by kernel_rfl) (by kernel_rfl) (by kernel_rfl)]
  have hl : Lies (W.alloc (.cells #[.int .u8 x] 5)) ⟨W.heap.size, 0, none⟩ [.int .u8 x] := lies_alloc W #[.int .u8 x] 5
  exact run_bytesToString (W.alloc (.cells #[.int .u8 x] 5)) ⟨W.heap.size, 0, none⟩ 1 1 [x] (hl.load Tryd.prog 1 rfl)
set_option maxRecDepth 100000 in
set_option maxHeartbeats 1000000 in
theorem markText_c (k : Nat) (w : World) (hk : k ≤ 4611686018427387904) : Calls Tryd.prog 27 #[.int .i64 k] w fun e w' => e = .returned (.string (mText k)) ∧ Below w.heap.size w w' := by
  by_cases h0 : k = 0
  · subst h0
    go_enter Tryd.func27, Tryd.ntmps27
    go_wp2_with fail
    go_ret
    exact ⟨by first | rfl | trivial, Below.refl _ _⟩
  · have hd : ¬ ((k : Int) ≤ 0) := by omega
    go_enter Tryd.func27, Tryd.ntmps27
    go_wp2_with fail
    go_loopw [0, 3] (fun q s W => ∃ f m acc, q = .int .i64 (m : Nat) ∧ acc.size + m ≤ k ∧ m < f ∧ s = .string acc ∧ digB f m acc = digB (k + 1) k ByteArray.empty ∧ Below w.heap.size w W) (fun q _ _ => (intOf q).toNat)
    case atStart => exact ⟨k + 1, k, ByteArray.empty, rfl, by show 0 + k ≤ k; omega, by omega, rfl, rfl, Below.refl _ _⟩
    case round =>
      obtain ⟨f, m, acc, rfl, hm, hf, rfl, he, hb⟩ := hrel
      obtain ⟨f, rfl⟩ : ∃ f', f = f' + 1 := ⟨f - 1, by omega⟩
      by_cases hz : m = 0
      · subst hz
        have e2 : digB (f + 1) 0 acc = acc := by simp [digB]
        rw [e2] at he
        have hm0 : mText k = ⟨#[109]⟩ ++ acc := by unfold mText; rw [if_neg h0, he]; rfl
        have HM := Lib.hid hm0
        have hd1 : decide ((0 : Int) < ((0 : Nat) : Int)) = false := by decide
        have hsz : ¬ (9223372036854775807 : Nat) < 1 + acc.size := by omega
        clear he e2 hm0 hf hm
        go_wp2_with fail
        go_ret
        exact ⟨by rw [HM.out]; rfl, hb⟩
      · have hd1 : decide ((0 : Int) < (m : Int)) = true := decide_eq_true (by omega)
        have hcv := conv1
        have hdg : digB (f + 1) m acc = digB f (m / 10) (⟨#[UInt8.ofNat (48 + m % 10)]⟩ ++ acc) := by show (if m = 0 then acc else _) = _; rw [if_neg hz]
        have hpu : ByteArray.empty.push (UInt8.ofNat ((48 + (m : Int) % 10)).toNat) = ⟨#[UInt8.ofNat (48 + m % 10)]⟩ := by
          rw [show (48 + (m : Int) % 10).toNat = 48 + m % 10 by omega]; rfl
        have hsz : ¬ (9223372036854775807 : Nat) < 1 + acc.size := by omega
        have HD := Lib.hid hdg
        have HE := Lib.hid he
        clear hdg he
        go_wp2_with fail
        have hz1 : (⟨#[48 + UInt8.ofNat (m % 10)]⟩ ++ acc : ByteArray).size = 1 + acc.size := by rw [ByteArray.size_append]; rfl
        refine ⟨⟨f, m / 10, ⟨#[48 + UInt8.ofNat (m % 10)]⟩ ++ acc, by simp, by rw [hz1]; omega, by omega, rfl, ?_, by repeat (first | (with_reducible assumption) | (with_reducible exact Below.refl _ _) | (with_reducible apply below_alloc) | (with_reducible apply below_drewN) | (with_reducible apply Below.drew) | (with_reducible refine below_set ?_ (by dsimp only; omega) _) | (with_reducible refine below_trans ?_ (by assumption)))⟩, by simp [intOf]; omega⟩
        have h1 := HD.out
        rw [HE.out] at h1
        rw [h1, UInt8.ofNat_add]
        rfl
def mkS (k : Int) (x : ByteArray) : ByteArray := mText k.toNat
def ctS (x : ByteArray) : Nat := 1
def mkSs : Nat → List ByteArray → List ByteArray
  | _, [] => []
  | k, _ :: xs => mText k :: mkSs (k + 1) xs
theorem mkSs_len : ∀ (k : Nat) (xs : List ByteArray), (mkSs k xs).length = xs.length
  | _, [] => rfl
  | k, x :: xs => by simp [mkSs, mkSs_len]
theorem mkSs_append : ∀ (k : Nat) (xs ys : List ByteArray), mkSs k (xs ++ ys) = mkSs k xs ++ mkSs (k + xs.length) ys
  | k, [], ys => by simp [mkSs]
  | k, x :: xs, ys => by simp [mkSs, mkSs_append (k + 1) xs ys, Nat.add_assoc, Nat.add_comm 1]
theorem mkSs_take (k : Nat) (xs : List ByteArray) (m : Nat) (h : m < xs.length) (ys : List ByteArray) : mkSs k (xs.take (m + 1)) ++ ys = mkSs k (xs.take m) ++ mText (k + m) :: ys := by
  rw [List.take_succ_eq_append_getElem h, mkSs_append]
  simp [mkSs, List.length_take, Nat.min_eq_left (Nat.le_of_lt h)]
theorem mkSs_get (k : Nat) (xs : List ByteArray) (m : Nat) (h : m < xs.length) : (mkSs k xs)[m]'(by rw [mkSs_len]; exact h) = mText (k + m) := by
  have e := mkSs_take k xs m h (mkSs (k + (m + 1)) (xs.drop (m + 1)))
  have e3 : mkSs k xs = mkSs k (xs.take (m + 1)) ++ mkSs (k + (m + 1)) (xs.drop (m + 1)) := by
    conv => lhs; rw [← List.take_append_drop (m + 1) xs]
    rw [mkSs_append, List.length_take, Nat.min_eq_left h]
  simp only [e3, e]
  rw [List.getElem_append_right (by rw [mkSs_len, List.length_take]; omega)]
  simp [mkSs_len, List.length_take, Nat.min_eq_left (Nat.le_of_lt h)]
set_option maxRecDepth 100000 in
set_option maxHeartbeats 2000000 in
theorem markStringS_c (xs : List ByteArray) (A : Option Addr) (c k B : Nat) (fp : List Nat) (w : World) (ho : OwnS kStr 9 B w fp (.slice A xs.length c) xs) (nd : fp.Nodup) (hb : k + xs.length ≤ 4611686018427387904) :
    Calls Tryd.prog 17 #[.slice A xs.length c, .int .i64 k] w fun e' w' => e' = .returned (.int .i64 (k + xs.length : Nat)) ∧ OwnS kStr 9 B w' fp (.slice A xs.length c) (mkSs k xs) ∧ Turn fp w w' := by
  have hlen := (ownS_rdsT ho).le63
  go_enter Tryd.func17, Tryd.ntmps17
  go_wp2_with fail
  go_loopw [1, 5] (fun q i W => ∃ m : Nat, m ≤ xs.length ∧ i = .int .i64 m ∧ q = .int .i64 (k + m : Nat) ∧ OwnS kStr 9 B W fp (.slice A xs.length c) (mkSs k (xs.take m) ++ xs.drop m) ∧ Turn fp w W) (fun _ i _ => xs.length - (intOf i).toNat)
  case atStart => exact ⟨0, Nat.zero_le _, rfl, by simp, ho, Turn.refl _ _⟩
  case round =>
    clear ho
    obtain ⟨m, hm, rfl, rfl, ho, ht⟩ := hrel
    by_cases hlt : m < xs.length
    · have hlt' : (m : Int) < (xs.length : Int) := by omega
      have hmk := mkSs_take k xs m hlt
      have hin := ho.in
      rw [List.drop_eq_getElem_cons hlt] at ho
      generalize hx : xs[m] = x at ho
      have HM := Lib.hid hmk
      clear hx hmk
      obtain ⟨gg, fe, f1, f2, c1, ce, c2, rfl, hn, rfl, hc1, hB, hO, wand⟩ := ho.zoom nd
      rw [mkSs_len, List.length_take, Nat.min_eq_left hm] at hc1
      clear ho hn
      simp only [show kStr.sz = 1 from rfl, Nat.mul_one] at hc1
      obtain ⟨rfl, rfl⟩ := hO
      have lg := hB.lt
      go_wp2_with fail
      refine Calls.mono (markText_c (k + m) _ (by omega)) ?_
      rintro e2 w2 ⟨rfl, hb2⟩
      have hB2 := hB.below hb2
      have q0 := hB2.mid hc1 (j := 0) rfl
      have z0 := hB2.frozen (m + 0)
      simp only [Nat.add_zero] at q0 z0
      have ht2 := Turn.trans ht ((Turn.of_below (fp := gg :: (f1 ++ ([] ++ f2))) hb2))
      have fr2 : ∀ b, b ∈ f1 ∨ b ∈ f2 → w2.heap[b]? = wr.heap[b]? := fun b hbm => hb2.block b (hin b (by rcases hbm with h | h <;> simp [h])).2
      have hf1 : ∀ b, b ∈ f1 ∨ b ∈ f2 → b ≠ gg := fun b hb e => by
        subst e
        have nd' := nd
        simp only [List.nodup_cons, List.mem_append] at nd'
        grind
      have HB := Lib.hid hB2
      clear hB hB2
      go_wp2_with fail
      have bb := (HB.out).set hc1 (j := 0) (by simp) (.string (mText (k + m)))
      try simp only [List.set_cons_zero, List.set_cons_succ, Nat.add_zero, Nat.add_assoc, Nat.reduceAdd] at bb
      refine ⟨⟨m + 1, hlt, by go_num, by simp [Int.add_assoc], ?_, ?_⟩, by simp [intOf]; omega⟩
      · rw [HM.out]
        exact wand _ _ _ (mText (k + m)) bb ⟨rfl, rfl⟩ (fun b hb => by have hne := hf1 b hb; rw [set_block _ _ _ _ _ hne]; exact fr2 b hb)
      · exact ht2.set (by simp) _
    · have hk' : m = xs.length := by omega
      subst hk'
      rw [List.take_length, List.drop_length, List.append_nil] at ho
      have HO := Lib.hid ho
      clear ho
      go_wp2_with fail
      go_ret
      exact ⟨by first | rfl | simp, HO.out, ht⟩
set_option maxRecDepth 100000 in
set_option maxHeartbeats 2000000 in
theorem heldStringS_c (xs : List ByteArray) (A : Option Addr) (c k : Nat) (w : World) (h : RdS kStr w A c (mkSs k xs)) (hb : k + xs.length ≤ 4611686018427387904) :
    Calls Tryd.prog 18 #[.slice A xs.length c, .int .i64 k] w fun e' w' => e' = .returned (.int .i64 (k + xs.length : Nat)) ∧ Below w.heap.size w w' := by
  have hlen := h.le63
  rw [mkSs_len] at hlen
  go_enter Tryd.func18, Tryd.ntmps18
  go_wp2_with fail
  go_loopw [1, 5] (fun q i W => ∃ m : Nat, m ≤ xs.length ∧ i = .int .i64 m ∧ q = .int .i64 (k + m : Nat) ∧ Below w.heap.size w W) (fun _ i _ => xs.length - (intOf i).toNat)
  case atStart => exact ⟨0, Nat.zero_le _, rfl, by simp, Below.refl _ _⟩
  case round =>
    obtain ⟨m, hm, rfl, rfl, hbw⟩ := hrel
    by_cases hlt : m < xs.length
    · have hlt' : (m : Int) < (xs.length : Int) := by omega
      obtain ⟨a, ea, hx⟩ := (h.below hbw).at_ (k := m) (by rw [mkSs_len]; exact hlt)
      rw [mkSs_get k xs m hlt] at hx
      subst ea
      simp only [show kStr.sz = 1 from rfl, Nat.mul_one] at hx
      have q0 := atStr hx
      have hcs : ∀ W, Calls Tryd.prog 27 #[.int .i64 ((k + m : Nat) : Int)] W fun e w' => e = .returned (.string (mText (k + m))) ∧ Below W.heap.size W w' := fun W => markText_c (k + m) W (by omega)
      generalize mText (k + m) = x at q0 hcs
      have HC := Lib.hid hcs
      have hbs : k + m ≤ 4611686018427387904 := by omega
      clear hx hcs
      go_wp2_with fail
      go_region_with (go_at_call 27; refine (HC.out _).mono ?_; rintro e w1 ⟨rfl, hb1⟩; have b1 : Below wr.heap.size wr w1 := (by repeat (first | (with_reducible assumption) | (with_reducible exact Below.refl _ _) | (with_reducible apply below_alloc) | (with_reducible apply below_drewN) | (with_reducible apply Below.drew) | (with_reducible refine below_set ?_ (by dsimp only; omega) _) | (with_reducible refine below_trans ?_ (by assumption)))); have q1 := cell_below b1 q0)
      all_goals (go_wp2_with fail)
      all_goals (exact ⟨⟨m + 1, hlt, by go_num, by simp [Int.add_assoc], by repeat (first | (with_reducible assumption) | (with_reducible exact Below.refl _ _) | (with_reducible apply below_alloc) | (with_reducible apply below_drewN) | (with_reducible apply Below.drew) | (with_reducible refine below_set ?_ (by dsimp only; omega) _) | (with_reducible refine below_trans ?_ (by assumption)))⟩, by simp [intOf]; omega⟩)
    · have hk' : m = xs.length := by omega
      subst hk'
      go_wp2
      go_ret; exact ⟨by first | rfl | simp, hbw⟩
set_option maxRecDepth 100000 in
set_option maxHeartbeats 4000000 in
theorem eqWordsResult_c (cd : Int) (xs : List ByteArray) (A1 : Option Addr) (c1 : Nat) (B1 : Option Addr) (d1 : Nat) (w : World) (h1 : RdS kStr w A1 c1 xs) (k1 : RdS kStr w B1 d1 xs) :
    Calls Tryd.prog 7 #[.agg #[.int .i64 cd, .slice A1 xs.length c1], .agg #[.int .i64 cd, .slice B1 xs.length d1]] w fun e w' => e = .returned (.bool true) ∧ Below w.heap.size w w' := by
  go_enter Tryd.func7, Tryd.ntmps7
  go_wp2_with fail
  refine (eqStringS_c xs _ _ _ _ _ (h1.below (by repeat (first | (with_reducible assumption) | (with_reducible exact Below.refl _ _) | (with_reducible apply below_alloc) | (with_reducible apply below_drewN) | (with_reducible apply Below.drew) | (with_reducible refine below_set ?_ (by dsimp only; omega) _) | (with_reducible refine below_trans ?_ (by assumption))))) (k1.below (by repeat (first | (with_reducible assumption) | (with_reducible exact Below.refl _ _) | (with_reducible apply below_alloc) | (with_reducible apply below_drewN) | (with_reducible apply Below.drew) | (with_reducible refine below_set ?_ (by dsimp only; omega) _) | (with_reducible refine below_trans ?_ (by assumption)))))).mono ?_
  rintro e w1 ⟨rfl, hb1⟩
  have bw : Below w.heap.size w w1 := by repeat (first | (with_reducible assumption) | (with_reducible exact Below.refl _ _) | (with_reducible apply below_alloc) | (with_reducible apply below_drewN) | (with_reducible apply Below.drew) | (with_reducible refine below_set ?_ (by dsimp only; omega) _) | (with_reducible refine below_trans ?_ (by assumption)))
  go_wp2_with fail
  go_ret
  exact ⟨rfl, bw⟩
set_option maxRecDepth 100000 in
set_option maxHeartbeats 2000000 in
theorem markWordsResult_c (cd : Int) (xs : List ByteArray) (A1 : Option Addr) (c1 k B : Nat) (f1 : List Nat) (w : World) (h1 : OwnS kStr 9 B w f1 (.slice A1 xs.length c1) xs) (nd : (f1 : List Nat).Nodup) (hb : k + xs.length ≤ 4611686018427387904) :
    Calls Tryd.prog 8 #[.agg #[.int .i64 cd, .slice A1 xs.length c1], .int .i64 k] w fun e' w' => e' = .returned (.int .i64 (k + xs.length : Nat)) ∧ OwnS kStr 9 B w' f1 (.slice A1 xs.length c1) (mkSs k xs) ∧ Turn f1 w w' := by
  have i1 : ∀ b ∈ f1, b < w.heap.size := fun b hb => (h1.in b hb).2
  go_enter Tryd.func8, Tryd.ntmps8
  have h1 := OwnS.keep h1 (w' := (w.alloc (.cells #[.int .i64 cd, .slice A1 xs.length c1] 24))) (fun b hb => Below.heap_alloc _ _ _ (i1 b hb))
  have ht : Turn f1 w (w.alloc (.cells #[.int .i64 cd, .slice A1 xs.length c1] 24)) := (Turn.refl _ _).alloc _
  go_wp2_with fail
  refine Calls.mono (markStringS_c xs A1 c1 k B f1 _ h1 nd hb) ?_
  rintro e0 w1 ⟨rfl, o1, t0⟩
  have ht := ht.trans t0
  go_wp2_with fail
  go_ret
  exact ⟨rfl, o1, ht⟩
set_option maxRecDepth 100000 in
set_option maxHeartbeats 2000000 in
theorem heldWordsResult_c (cd : Int) (xs : List ByteArray) (A1 : Option Addr) (c1 k : Nat) (w : World) (h1 : RdS kStr w A1 c1 (mkSs k xs)) (hb : k + xs.length ≤ 4611686018427387904) :
    Calls Tryd.prog 9 #[.agg #[.int .i64 cd, .slice A1 xs.length c1], .int .i64 k] w fun e' w' => e' = .returned (.int .i64 (k + xs.length : Nat)) ∧ Below w.heap.size w w' := by
  go_enter Tryd.func9, Tryd.ntmps9
  have hb0 : Below w.heap.size w (w.alloc (.cells #[.int .i64 cd, .slice A1 xs.length c1] 24)) := below_alloc (Below.refl _ _) _
  go_wp2_with fail
  refine Calls.mono (heldStringS_c xs A1 c1 k _ (h1.below (by repeat (first | (with_reducible assumption) | (with_reducible exact Below.refl _ _) | (with_reducible apply below_alloc) | (with_reducible apply below_drewN) | (with_reducible apply Below.drew) | (with_reducible refine below_set ?_ (by dsimp only; omega) _) | (with_reducible refine below_trans ?_ (by assumption))))) hb) ?_
  rintro e0 w1 ⟨rfl, hb1⟩
  have bw : Below w.heap.size w w1 := by repeat (first | (with_reducible assumption) | (with_reducible exact Below.refl _ _) | (with_reducible apply below_alloc) | (with_reducible apply below_drewN) | (with_reducible apply Below.drew) | (with_reducible refine below_set ?_ (by dsimp only; omega) _) | (with_reducible refine below_trans ?_ (by assumption)))
  have hn : ¬ ((k : Int) + (xs.length : Int) < 0) := by omega
  go_wp2_with fail
  go_ret
  exact ⟨by first | rfl | simp, bw⟩
end Go.Proofs.YtnbenhkbcodlfaaDoor
