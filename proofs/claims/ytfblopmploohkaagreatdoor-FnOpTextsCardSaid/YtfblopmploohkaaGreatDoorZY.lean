/- The words of the line that asks an operation, plainly (own work). -/
import Derived.Test.YtfblopmploohkaaGreatDoorZU
import Derived.Test.YtfblopmploohkaaGreatDoorZT
import Derived.Lib.Join
import Derived.Test.YtfblopmploohkaaGreatDoorZA
set_option linter.unusedVariables false
set_option linter.unusedSimpArgs false
namespace Go.Proofs.YtfblopmploohkaaGreatDoor
open Go Go.RowKit Mk
theorem cutL_word (c : UInt8) (R : List UInt8) (X : List (List UInt8)) (h : cutL c R = [] :: X) : ∀ x : List UInt8, c ∉ x → cutL c (x ++ R) = x :: X
  | [], _ => h
  | b :: x, hx => by
    have hb : b ≠ c := fun e => hx (by simp [e])
    have hx' : c ∉ x := fun e => hx (by simp [e])
    rw [List.cons_append, cutL, if_neg hb, cutL_word c R X h x hx']
    rfl
theorem cutL_last (c : UInt8) : ∀ x : List UInt8, c ∉ x → cutL c x = [x]
  | [], _ => rfl
  | b :: x, hx => by
    have hb : b ≠ c := fun e => hx (by simp [e])
    have hx' : c ∉ x := fun e => hx (by simp [e])
    rw [cutL, if_neg hb, cutL_last c x hx']
    rfl
theorem cutL_join (c : UInt8) : ∀ (xs : List (List UInt8)) (x : List UInt8), c ∉ x → (∀ y ∈ xs, c ∉ y) → cutL c (x ++ Lib.joinTail [c] xs) = x :: xs
  | [], x, hx, _ => by
    rw [show Lib.joinTail [c] [] = [] from rfl, List.append_nil]
    exact cutL_last c x hx
  | y :: ys, x, hx, hxs => by
    have ih := cutL_join c ys y (hxs y (by simp)) (fun z hz => hxs z (by simp [hz]))
    refine cutL_word c _ (y :: ys) ?_ x hx
    rw [show Lib.joinTail [c] (y :: ys) = c :: (y ++ Lib.joinTail [c] ys) by simp [Lib.joinTail], cutL, if_pos rfl, ih]
/-- The digits of a numeral. -/
theorem dec_bytes : ∀ n, ∀ b ∈ Lib.decDigits n, ∃ d, d < 10 ∧ b = UInt8.ofNat (48 + d) := by
  intro n
  induction n using Nat.strongRecOn with
  | _ n ih =>
    intro b hb
    by_cases h : n < 10
    · rw [dec_small h] at hb
      exact ⟨n, h, by simpa using hb⟩
    · rw [dec_big h] at hb
      rcases List.mem_append.1 hb with hb | hb
      · exact ih (n / 10) (by omega) b hb
      · exact ⟨n % 10, by omega, by simpa using hb⟩
theorem digit_ne {d : Nat} (h : d < 10) {c : Nat} (hc : c < 48) : UInt8.ofNat (48 + d) ≠ UInt8.ofNat c := by
  intro e
  have := congrArg UInt8.toNat e
  simp only [UInt8.toNat_ofNat'] at this
  omega
theorem dec_no32 (n : Nat) : (32 : UInt8) ∉ Lib.decDigits n := fun h => by
  obtain ⟨d, hd, e⟩ := dec_bytes n 32 h
  exact digit_ne hd (c := 32) (by omega) e.symm
theorem dec_no10 (n : Nat) : (10 : UInt8) ∉ Lib.decDigits n := fun h => by
  obtain ⟨d, hd, e⟩ := dec_bytes n 10 h
  exact digit_ne hd (c := 10) (by omega) e.symm
theorem dec_len3 (n : Nat) (h : n ≤ 999) : 1 ≤ (Lib.decDigits n).length ∧ (Lib.decDigits n).length ≤ 3 := by
  by_cases h1 : n < 10
  · rw [dec_small h1]; simp
  · rw [dec_big h1]
    by_cases h2 : n / 10 < 10
    · rw [dec_small h2]; simp
    · rw [dec_big h2, dec_small (by omega)]; simp
/-- What digits tell. -/
def digV (a : Nat) (b : UInt8) : Nat := 10 * a + (b.toNat - 48)
def valL (a : Nat) (l : List UInt8) : Nat := l.foldl digV a
theorem valL_app (a : Nat) (xs ys : List UInt8) : valL a (xs ++ ys) = valL (valL a xs) ys := List.foldl_append
theorem valD (a d : Nat) (h : d < 10) : digV a (UInt8.ofNat (48 + d)) = 10 * a + d := by
  unfold digV
  rw [UInt8.toNat_ofNat']
  omega
theorem dec_ne (n : Nat) : Lib.decDigits n ≠ [] := by
  by_cases h : n < 10
  · rw [dec_small h]; simp
  · rw [dec_big h]; simp
theorem valL_cons (a : Nat) (b : UInt8) (l : List UInt8) : valL a (b :: l) = valL (digV a b) l := List.foldl_cons ..
theorem valL_nil (a : Nat) : valL a [] = a := rfl
theorem valL_small (n : Nat) (h : n < 10) : valL 0 (Lib.decDigits n) = n := by
  rw [dec_small h, valL_cons, valD 0 n h, valL_nil]
  omega
theorem valL_big (n : Nat) (h : ¬ n < 10) (ih : valL 0 (Lib.decDigits (n / 10)) = n / 10) : valL 0 (Lib.decDigits n) = n := by
  rw [dec_big h, valL_app, ih, valL_cons, valD _ _ (by omega), valL_nil]
  omega
theorem valL_dec : ∀ n, valL 0 (Lib.decDigits n) = n := fun n => Nat.strongRecOn n fun n ih => if h : n < 10 then valL_small n h else valL_big n h (ih (n / 10) (by omega))
theorem lineB_tailY (wd : ByteArray) (ns : List Nat) : (lineB wd ns).data.toList = wd.data.toList ++ Lib.joinTail [32] (ns.map Lib.decDigits) := by
  induction ns generalizing wd with
  | nil => simp [lineB, Lib.joinTail]
  | cons n ns ih =>
    rw [lineB, ih]
    simp [Lib.joinTail, numS]
def askW : ByteArray := ⟨#[97, 115, 107]⟩
/-- What stands ahead of the operation: "ask 0 7 8 ". -/
def askP : ByteArray := ⟨#[97, 115, 107, 32, 48, 32, 55, 32, 56, 32]⟩
theorem words_line (wd : ByteArray) (ns : List Nat) (h0 : wd.data.toList ≠ []) (h : (32 : UInt8) ∉ wd.data.toList) : wordsB (lineB wd ns) = wd :: ns.map numS := by
  unfold wordsB
  rw [lineB_tailY, cutL_join 32 _ _ h (by simp; intro n _; exact dec_no32 n)]
  simp only [List.map_cons, List.map_map, toB_list]
  rw [List.filter_cons, if_pos (by simpa [Lib.toList_data] using h0)]
  congr 1
  rw [show (toB ∘ Lib.decDigits) = numS from funext fun n => rfl]
  refine List.filter_eq_self.2 ?_
  intro x hx
  obtain ⟨n, -, rfl⟩ := List.mem_map.1 hx
  rw [Lib.toList_data]
  simpa [numS] using dec_ne n
theorem words_ask (nm : ByteArray) (ns : List Nat) (h0 : nm.data.toList ≠ []) (h : (32 : UInt8) ∉ nm.data.toList) : wordsB (askP ++ lineB nm ns) = askW :: numS 0 :: numS 7 :: numS 8 :: nm :: ns.map numS := by
  unfold wordsB
  rw [show (askP ++ lineB nm ns).data.toList = [97, 115, 107] ++ Lib.joinTail [32] ([48] :: [55] :: [56] :: nm.data.toList :: ns.map Lib.decDigits) by
    rw [ByteArray.data_append, Array.toList_append, lineB_tailY]
    simp [Lib.joinTail, askP]]
  rw [cutL_join 32 _ _ (by decide) (by
    intro y hy
    simp only [List.mem_cons, List.mem_map] at hy
    rcases hy with rfl | rfl | rfl | rfl | ⟨n, -, rfl⟩
    · decide
    · decide
    · decide
    · exact h
    · exact dec_no32 n)]
  have e : ∀ n : Nat, n < 10 → numS n = toB [UInt8.ofNat (48 + n)] := fun n hn => by unfold numS; rw [dec_small hn]; rfl
  rw [e 0 (by omega), e 7 (by omega), e 8 (by omega)]
  have hf : ∀ x : List UInt8, x ≠ [] → (!(toB x).toList.isEmpty) = true := fun x hx => by
    rw [Lib.toList_data]
    simpa [toB] using hx
  rw [List.filter_eq_self.2 (by
    intro x hx
    obtain ⟨y, hy, rfl⟩ := List.mem_map.1 hx
    refine hf y ?_
    simp only [List.mem_cons, List.mem_map] at hy
    rcases hy with rfl | rfl | rfl | rfl | rfl | ⟨n, -, rfl⟩
    · simp
    · simp
    · simp
    · simp
    · exact h0
    · exact dec_ne n)]
  simp only [List.map_cons, List.map_map, toB_list]
  rfl
theorem line_no10 (nm : ByteArray) (ns : List Nat) (h : (10 : UInt8) ∉ nm.data.toList) : (10 : UInt8) ∉ (askP ++ lineB nm ns).data.toList := by
  rw [ByteArray.data_append, Array.toList_append, lineB_tailY]
  intro hm
  simp only [List.mem_append] at hm
  rcases hm with hm | hm | hm
  · revert hm; decide
  · exact h hm
  · simp only [Lib.joinTail, List.mem_flatten, List.mem_map] at hm
    obtain ⟨l, ⟨y, ⟨n, -, rfl⟩, rfl⟩, hb⟩ := hm
    rcases List.mem_append.1 hb with hb | hb
    · revert hb; decide
    · exact dec_no10 n hb
end Go.Proofs.YtfblopmploohkaaGreatDoor

/- Words that are numerals, read as numbers: the program's numbersOf (own work). -/
set_option linter.unusedVariables false
set_option linter.unusedSimpArgs false
namespace Go.Proofs.YtfblopmploohkaaGreatDoor
open Go Go.RowKit Mk
def LaidNums (ns : List Nat) (w : World) (r : Ending) (w' : World) : Prop := ∃ B d f, r = .returned (.tuple #[.slice B ns.length d, .bool true]) ∧ OwnS kInt 2 w.heap.size w' f (.slice B ns.length d) (ns.map (fun (n : Nat) => (n : Int))) ∧ f.Nodup ∧ Below w.heap.size w w'
theorem digit_at {n q : Nat} (h : q < (Lib.decDigits n).length) : ∃ d, d < 10 ∧ (Lib.decDigits n)[q] = UInt8.ofNat (48 + d) := dec_bytes n _ (List.getElem_mem h)
theorem digit_toNat {d : Nat} (h : d < 10) : (UInt8.ofNat (48 + d)).toNat = 48 + d := by
  rw [UInt8.toNat_ofNat']
  omega
theorem valL_take (l : List UInt8) (q : Nat) (h : q < l.length) : valL 0 (l.take (q + 1)) = digV (valL 0 (l.take q)) l[q] := by
  rw [List.take_succ_eq_append_getElem h, valL_app, valL_cons, valL_nil]
set_option maxRecDepth 100000 in
set_option maxHeartbeats 4000000 in
theorem numbersOf_c (ns : List Nat) (hn : ∀ n ∈ ns, n ≤ 999) (A : Option Addr) (c : Nat) (w : World) (h : RdS kStr w A c (ns.map numS)) (hl : ns.length ≤ 100) :
    Calls Tryz.prog 45 #[.slice A ns.length c] w fun r w' => LaidNums ns w r w' := by
  go_enter Tryz.func45, Tryz.ntmps45
  go_wp2_with fail
  go_loopw [4, 12] (fun v i W => ∃ (k : Nat) (vs : List Int) (G : Option Addr) (y : Nat) (fp : List Nat), k ≤ ns.length ∧ i = .int .i64 k ∧ v = .slice G vs.length y ∧ vs = (ns.take k).map (fun (n : Nat) => (n : Int)) ∧ OwnS kInt 2 w.heap.size W fp (.slice G vs.length y) vs ∧ fp.Nodup ∧ Below w.heap.size w W) (fun _ i _ => ns.length - (intOf i).toNat)
  case atStart => exact ⟨0, [], _, _, _, Nat.zero_le _, rfl, rfl, rfl, ownS_empty kInt w 2 (Nat.le_refl _), by simp, below_alloc (Below.refl _ _) _⟩
  case round =>
    obtain ⟨k, vs, G, y, fp, hk, rfl, rfl, hvs, ow, nd, hb⟩ := hrel
    obtain ⟨w5, hw5⟩ : ∃ W, W = wr := ⟨_, rfl⟩
    subst hw5
    by_cases hlt : k < ns.length
    · have hlt' : (k : Int) < (ns.length : Int) := by omega
      have hvn : vs ++ [(ns[k] : Int)] = (ns.take (k + 1)).map (fun (n : Nat) => (n : Int)) := by rw [List.take_succ_eq_append_getElem hlt, List.map_append, ← hvs]; rfl
      have hvl : vs.length ≤ 100 := by rw [hvs, List.length_map, List.length_take]; omega
      obtain ⟨p, ep, hx⟩ := (h.below hb).at_ (k := k) (by rw [List.length_map]; exact hlt)
      subst ep
      simp only [show kStr.sz = 1 from rfl, Nat.mul_one, List.getElem_map] at hx
      have hn9 := hn _ (List.getElem_mem hlt)
      clear hvs
      generalize ns[k] = n at hx hvn hn9
      have q0 := atStr hx
      clear hx
      obtain ⟨D, hD⟩ : ∃ D, D = numS n := ⟨_, rfl⟩
      obtain ⟨L, hL⟩ : ∃ L, L = Lib.decDigits n := ⟨_, rfl⟩
      obtain ⟨hd1, hd3⟩ : 1 ≤ L.length ∧ L.length ≤ 3 := by rw [hL]; exact dec_len3 n hn9
      have hsz : D.size = L.length := by rw [hD, hL]; exact numS_size n
      have hval : valL 0 L = n := by rw [hL]; exact valL_dec n
      have hdig : ∀ (q : Nat) (hq : q < L.length), ∃ d, d < 10 ∧ L[q] = UInt8.ofNat (48 + d) := by subst hL; exact fun q hq => digit_at hq
      have hby : ∀ (q : Nat) (hq : q < D.size) (hq2 : q < L.length), D[q] = L[q] := by subst hL; subst hD; exact fun q hq hq2 => by simp [ByteArray.getElem_eq_getElem_data, numS]
      rw [← hD] at q0
      clear hD hL
      have hwi : wi (D.size : Int) 1 3 = true := by unfold wi; simp; omega
      have HV := Lib.hid hvn
      have HSZ := Lib.hid hsz
      clear hvn hsz
      go_wp2_with ((go_at_call 19; (with_reducible refine (within_c _ _ _ _).mono ?_); rintro e w' ⟨rfl, rfl⟩))
      go_loopw [7, 22] (fun a j W => ∃ q v : Nat, q ≤ D.size ∧ j = .int .i64 q ∧ a = .int .i64 v ∧ v = valL 0 (L.take q) ∧ v < 10 ^ q ∧ w5 = W) (fun _ j _ => D.size - (intOf j).toNat)
      case atStart => exact ⟨0, 0, Nat.zero_le _, rfl, rfl, rfl, by decide, rfl⟩
      case round =>
        obtain ⟨q, v, hq, rfl, rfl, hv, hvp, rfl⟩ := hrel
        by_cases hlt2 : q < D.size
        · have hlt3 : (q : Int) < (D.size : Int) := by omega
          have hqL : q < L.length := by have := HSZ.out; omega
          obtain ⟨d, hd, hdb⟩ := hdig q hqL
          have hvt := valL_take L q hqL
          rw [← hv, hdb, valD v d hd] at hvt
          have hto : D[q].toNat = 48 + d := by rw [hby q hlt2 hqL, hdb]; exact digit_toNat hd
          have hq3 : q ≤ 2 := by have := HSZ.out; omega
          have hv1000 : v ≤ 1000 := by
            have : 10 ^ q ≤ 10 ^ 2 := Nat.pow_le_pow_right (by omega) hq3
            omega
          have hpw : 10 * v + d < 10 ^ (q + 1) := by rw [Nat.pow_succ]; omega
          have k1 : decide ((D[q].toNat : Int) < 48) = false := decide_eq_false (by omega)
          have k2 : decide ((57 : Int) < (D[q].toNat : Int)) = false := decide_eq_false (by omega)
          have k3 : IntKind.u8.wrap ((D[q].toNat : Int) - 48) = (d : Int) := by
            rw [hto]
            unfold IntKind.wrap
            simp only [show IntKind.u8.bits = 8 from rfl, show IntKind.u8.signed = false from rfl, Bool.false_and, Bool.false_eq_true, if_false]
            omega
          have k4 : IntKind.i64.wrap (d : Int) = (d : Int) := by rw [IntKind.wrap_i64]; omega
          have k5 : IntKind.i64.wrap (10 * (v : Int)) = 10 * (v : Int) := by rw [IntKind.wrap_i64]; omega
          have k6 : IntKind.i64.wrap (10 * (v : Int) + (d : Int)) = 10 * (v : Int) + (d : Int) := by rw [IntKind.wrap_i64]; omega
          have HT := Lib.hid hvt
          have HP := Lib.hid hpw
          clear hvt hpw hv hvp hdig hdb hby hto
          go_wp2_with fail
          exact ⟨⟨q + 1, 10 * v + d, hlt2, by go_num, by push_cast; rfl, HT.out.symm, HP.out, by first | rfl | trivial⟩, by simp [intOf]; omega⟩
        · have hq' : q = D.size := by omega
          subst hq'
          have hvn : v = n := by rw [hv, List.take_of_length_le (by have := HSZ.out; omega)]; exact hval
          clear hv hvp hdig hby
          subst hvn
          have OW := OwnS.keep (w' := w5.alloc (.cells #[.int .i64 (v : Int)] 2)) ow (fun b hm => Below.heap_alloc w5 _ _ (ow.in b hm).2)
          have r1 : RdS kInt (w5.alloc (.cells #[.int .i64 (v : Int)] 2)) (some ⟨w5.heap.size, 0, none⟩) 1 [(v : Int)] := rdS_blkI (xs := [(v : Int)]) (blk_alloc w5 [.int .i64 (v : Int)] 2) rfl (by simp)
          go_wp2_with (refine wpList_appFlat (d := kInt) (zs := [(v : Int)]) (ys := vs) (A := some ⟨w5.heap.size, 0, none⟩) (c := 1) (v := .slice G vs.length y) rfl (.tmp 44) (.tmp 46) 54 2 rfl (by kernel_rfl) (by kernel_rfl) flat_int (by simp [Act.eval, Act.put]) (by simp [Act.eval, Act.put]) OW nd r1 (by simp; omega) (by rw [Deep.nblk_alloc]; have := hb.size; omega) ?_; intro v' w' fp' hgr; obtain ⟨g1, g2, g3, g4⟩ := hgr; obtain ⟨AA, cA, rfl, _⟩ := g1.form; have hbb : Below w.heap.size w w' := (below_alloc hb (.cells #[.int .i64 (v : Int)] 2)).trans (g3.below (B := w.heap.size) (fun b hm => (ow.in b hm).1) (by rw [Deep.nblk_alloc]; have := hb.size; omega)))
          exact ⟨⟨k + 1, vs ++ [(v : Int)], AA, cA, fp', hlt, by go_num, by simp, HV.out, g1, g2, hbb⟩, by simp [intOf]; omega⟩
    · have hk' : k = ns.length := by omega
      subst hk'
      rw [List.take_length] at hvs
      have hvl : vs.length = ns.length := by rw [hvs, List.length_map]
      rw [hvl] at ow
      have HVS := Lib.hid hvs
      have HVL := Lib.hid hvl
      clear hvs hvl
      go_wp2_with fail
      exact bodyPost_ret (v := .tuple #[.slice G ns.length y, .bool true]) (by simp [results, Tryz.results45, go_sem, HVL.out]) rfl ⟨G, y, fp, rfl, HVS.out ▸ ow, nd, hb⟩
end Go.Proofs.YtfblopmploohkaaGreatDoor

/- An operation read out of words: the program's readOp (written by gY5.py, own work). -/
set_option linter.unusedVariables false
set_option linter.unusedSimpArgs false
namespace Go.Proofs.YtfblopmploohkaaGreatDoor
open Go Go.RowKit Mk
theorem numS_dig (n : Nat) (h : n < 10) : numS n = ⟨#[UInt8.ofNat (48 + n)]⟩ := by unfold numS; rw [dec_small h]
theorem own_ge {α : Type} {d : Kd α} {e : TypeId} {B : Nat} {w : World} {fp : List Nat} {a : Addr} {n c : Nat} {xs : List α} (h : OwnS d e B w fp (.slice (some a) n c) xs) (hx : xs ≠ []) : B ≤ a.block := by
  have hin := h.in
  rcases h with ⟨fi, inner, rfl, -, -⟩ | ⟨-, h0, -⟩
  · exact (hin a.block (by simp [Value.ownBlock])).1
  · exact absurd h0 hx
theorem cell_num {W : World} {G : Option Addr} {y : Nat} {fp : List Nat} {B : Nat} {ns : List Nat} (h : OwnS kInt 2 B W fp (.slice G ns.length y) (ns.map (fun (n : Nat) => (n : Int)))) (h1 : 1 ≤ ns.length) : ∃ a, G = some a ∧ ∀ (k : Nat) (hk : k < ns.length), W.cell? (a.add k) = some (.int .i64 (ns[k] : Int)) := by
  have hr := ownS_rdsT (n := ns.length) h
  have h1' : 0 < (ns.map (fun (n : Nat) => (n : Int))).length := by rw [List.length_map]; omega
  obtain ⟨a, ea, -⟩ := hr.at_ h1'
  refine ⟨a, ea, fun k hk => ?_⟩
  have hk' : k < (ns.map (fun (n : Nat) => (n : Int))).length := by rw [List.length_map]; exact hk
  obtain ⟨a', ea', hx⟩ := hr.at_ hk'
  rw [ea] at ea'
  obtain rfl := Option.some.inj ea'
  simp only [show kInt.sz = 1 from rfl, Nat.mul_one, List.getElem_map] at hx
  obtain ⟨cs, hl1, hcs⟩ := hx
  obtain rfl := hcs
  exact hl1.c0
set_option maxRecDepth 100000 in
set_option maxHeartbeats 4000000 in
theorem readOp_1 (V X : Nat) (hV : V ≤ 999) (hX : X ≤ 999) (a : Addr) (c : Nat) (w : World) (htab : Lib.TabIs Tryz.prog w "internal/strconv.uint64pow10" .u64 Lib.pow10Tab) (hr : RdS kStr w (some a) c ((⟨#[99, 114, 101, 97, 116, 101]⟩ : ByteArray) :: ([V, X] : List Nat).map numS)) :
    Calls Tryz.prog 46 #[.slice (some a) 3 c] w fun r w' => r = .returned (.tuple #[.agg #[.int .i64 1, .int .i64 (V : Int), .int .i64 0, .int .i64 (X : Int)], .bool true]) ∧ Below w.heap.size w w' := by
  have hcap : 3 ≤ c := by simpa using hr.1
  have hc63 : c ≤ 9223372036854775807 := by have := hr.2.1; unfold maxLen at this; omega
  have hw0 : w.cell? a = some (.string ⟨#[99, 114, 101, 97, 116, 101]⟩) := by
    obtain ⟨a', ea, hx⟩ := hr.at_ (k := 0) (by simp)
    obtain rfl := Option.some.inj ea
    have := atStr hx
    rw [show a.add (0 * kStr.sz) = a from by cases a; rfl] at this
    exact this
  have hrd : RdS kStr w (some (a.add 1)) (c - 1) (([V, X] : List Nat).map numS) := by
    have := hr.drop 1 (by simp)
    rw [show 1 * kStr.sz = 1 from rfl] at this
    exact this
  have HN := Lib.hid (fun (W : World) (hW : Below w.heap.size w W) => numbersOf_c [V, X] (by simp; omega) (some (a.add 1)) (c - 1) W (hrd.below hW) (by simp))
  have hDec := decimal_c 2 (by omega)
  rw [numS_dig 2 (by omega), show ((2 : Nat) : Int) = 2 from rfl] at hDec
  have HD := Lib.hid hDec
  have hcat : ((⟨#[99, 114, 101, 97, 116, 101]⟩ : ByteArray) ++ ⟨#[32]⟩) ++ ⟨#[50]⟩ = ⟨#[99, 114, 101, 97, 116, 101, 32, 50]⟩ := by decide
  have e1 : ((⟨#[99, 114, 101, 97, 116, 101, 32, 50]⟩ : ByteArray) == ⟨#[99, 114, 101, 97, 116, 101, 32, 50]⟩) = true := by decide
  clear hr hrd hDec
  go_enter Tryz.func46, Tryz.ntmps46
  go_upto_region 1 with fail
  refine at_world (fun W => Blk W w.heap.size 25 [.int .i64 0, .int .i64 0, .int .i64 0, .int .i64 0] ∧ Below w.heap.size w W) ⟨blk_alloc w [.int .i64 0, .int .i64 0, .int .i64 0, .int .i64 0] _, below_alloc (Below.refl _ _) _⟩ ?_
  rintro w1 ⟨zB, b1⟩
  go_wp2_with fail
  refine (HN.out w1 b1).mono ?_
  rintro e w2 ⟨G, y, fp, rfl, ow, nd, hb2⟩
  obtain ⟨a2, rfl, hcl⟩ := cell_num ow (by simp)
  have hge := own_ge ow (by simp)
  have hlz : w.heap.size < w1.heap.size := zB.lt
  have bw2 := below_trans b1 hb2
  replace zB := zB.below hb2
  have x0 := cell_below bw2 hw0
  go_upto_region 6 with fail
  go_region_held3 (fun W => W.cell? a = some (.string ⟨#[99, 114, 101, 97, 116, 101]⟩)) (first | (with_reducible exact x0) | (refine cell_below (show Below w2.heap.size w2 _ from ?_) x0 <;> ((repeat (first | (with_reducible assumption) | (with_reducible exact Below.refl _ _) | (with_reducible apply below_alloc) | (with_reducible apply below_drewN) | (with_reducible apply Below.drew) | (with_reducible refine below_set ?_ (by dsimp only; omega) _) | (with_reducible refine below_trans ?_ (by assumption)))); done)) | go_keep) (first | (go_at_call 31; (with_reducible refine (HD.out _ (tab_below htab ?_)).mono ?_); (focus ((repeat (first | (with_reducible assumption) | (with_reducible exact Below.refl _ _) | (with_reducible apply below_alloc) | (with_reducible apply below_drewN) | (with_reducible apply Below.drew) | (with_reducible refine below_set ?_ (by dsimp only; omega) _) | (with_reducible refine below_trans ?_ (by assumption)))); done)); rintro e wd ⟨rfl, hbd⟩))
  have n0 : wd.cell? a2 = some (.int .i64 (V : Int)) := cell_below (show Below w2.heap.size w2 wd by repeat (first | (with_reducible assumption) | (with_reducible exact Below.refl _ _) | (with_reducible apply below_alloc) | (with_reducible apply below_drewN) | (with_reducible apply Below.drew) | (with_reducible refine below_set ?_ (by dsimp only; omega) _) | (with_reducible refine below_trans ?_ (by assumption)))) (by have := hcl 0 (by simp); rw [show a2.add 0 = a2 from by cases a2; rfl] at this; exact this)
  have n1 : wd.cell? ⟨a2.block, a2.off + 1, none⟩ = some (.int .i64 (X : Int)) := cell_below (show Below w2.heap.size w2 wd by repeat (first | (with_reducible assumption) | (with_reducible exact Below.refl _ _) | (with_reducible apply below_alloc) | (with_reducible apply below_drewN) | (with_reducible apply Below.drew) | (with_reducible refine below_set ?_ (by dsimp only; omega) _) | (with_reducible refine below_trans ?_ (by assumption)))) (by have := hcl 1 (by simp); exact this)
  replace zB := zB.below (show Below w2.heap.size w2 wd by repeat (first | (with_reducible assumption) | (with_reducible exact Below.refl _ _) | (with_reducible apply below_alloc) | (with_reducible apply below_drewN) | (with_reducible apply Below.drew) | (with_reducible refine below_set ?_ (by dsimp only; omega) _) | (with_reducible refine below_trans ?_ (by assumption))))
  have bwd : Below w.heap.size w wd := by repeat (first | (with_reducible assumption) | (with_reducible exact Below.refl _ _) | (with_reducible apply below_alloc) | (with_reducible apply below_drewN) | (with_reducible apply Below.drew) | (with_reducible refine below_set ?_ (by dsimp only; omega) _) | (with_reducible refine below_trans ?_ (by assumption)))
  clear hcl HN ow HD htab hw0 x0 bw2 hbd hb2 b1
  have r0 := zB.cell (j := 0) rfl
  have y0 := zB.frozen 0
  have r1 := zB.cell (j := 1) rfl
  have y1 := zB.frozen 1
  have r2 := zB.cell (j := 2) rfl
  have y2 := zB.frozen 2
  have r3 := zB.cell (j := 3) rfl
  have y3 := zB.frozen 3
  have lz := zB.lt
  go_upto_region 8 with fail
  have hp : w.heap.size ≠ a2.block := by omega
  go_region_held3 (fun W => W.cell? a2 = some (.int .i64 (V : Int)) ∧ W.cell? ⟨a2.block, a2.off + 1, none⟩ = some (.int .i64 (X : Int))) (first | (with_reducible exact ⟨n0, n1⟩) | (simp only [World.cell?_setCell_far _ _ _ _ hp, n0, n1, and_self]; done) | go_keep) (fail)
  all_goals (go_wp2_with fail)
  all_goals exact bodyPost_ret (v := .tuple #[.agg #[.int .i64 1, .int .i64 (V : Int), .int .i64 0, .int .i64 (X : Int)], .bool true]) (by simp [results, Tryz.results46, go_sem, r0, r1, r2, r3]) rfl ⟨rfl, by repeat (first | (with_reducible assumption) | (with_reducible exact Below.refl _ _) | (with_reducible apply below_alloc) | (with_reducible apply below_drewN) | (with_reducible apply Below.drew) | (with_reducible refine below_set ?_ (by dsimp only; omega) _) | (with_reducible refine below_trans ?_ (by assumption)))⟩
set_option maxRecDepth 100000 in
set_option maxHeartbeats 4000000 in
theorem readOp_2 (V T X : Nat) (hV : V ≤ 999) (hT : T ≤ 999) (hX : X ≤ 999) (a : Addr) (c : Nat) (w : World) (htab : Lib.TabIs Tryz.prog w "internal/strconv.uint64pow10" .u64 Lib.pow10Tab) (hr : RdS kStr w (some a) c ((⟨#[119, 114, 105, 116, 101]⟩ : ByteArray) :: ([V, T, X] : List Nat).map numS)) :
    Calls Tryz.prog 46 #[.slice (some a) 4 c] w fun r w' => r = .returned (.tuple #[.agg #[.int .i64 2, .int .i64 (V : Int), .int .i64 (T : Int), .int .i64 (X : Int)], .bool true]) ∧ Below w.heap.size w w' := by
  have hcap : 4 ≤ c := by simpa using hr.1
  have hc63 : c ≤ 9223372036854775807 := by have := hr.2.1; unfold maxLen at this; omega
  have hw0 : w.cell? a = some (.string ⟨#[119, 114, 105, 116, 101]⟩) := by
    obtain ⟨a', ea, hx⟩ := hr.at_ (k := 0) (by simp)
    obtain rfl := Option.some.inj ea
    have := atStr hx
    rw [show a.add (0 * kStr.sz) = a from by cases a; rfl] at this
    exact this
  have hrd : RdS kStr w (some (a.add 1)) (c - 1) (([V, T, X] : List Nat).map numS) := by
    have := hr.drop 1 (by simp)
    rw [show 1 * kStr.sz = 1 from rfl] at this
    exact this
  have HN := Lib.hid (fun (W : World) (hW : Below w.heap.size w W) => numbersOf_c [V, T, X] (by simp; omega) (some (a.add 1)) (c - 1) W (hrd.below hW) (by simp))
  have hDec := decimal_c 3 (by omega)
  rw [numS_dig 3 (by omega), show ((3 : Nat) : Int) = 3 from rfl] at hDec
  have HD := Lib.hid hDec
  have hcat : ((⟨#[119, 114, 105, 116, 101]⟩ : ByteArray) ++ ⟨#[32]⟩) ++ ⟨#[51]⟩ = ⟨#[119, 114, 105, 116, 101, 32, 51]⟩ := by decide
  have e1 : ((⟨#[119, 114, 105, 116, 101, 32, 51]⟩ : ByteArray) == ⟨#[99, 114, 101, 97, 116, 101, 32, 50]⟩) = false := by decide
  have e2 : ((⟨#[119, 114, 105, 116, 101, 32, 51]⟩ : ByteArray) == ⟨#[119, 114, 105, 116, 101, 32, 51]⟩) = true := by decide
  clear hr hrd hDec
  go_enter Tryz.func46, Tryz.ntmps46
  go_upto_region 1 with fail
  refine at_world (fun W => Blk W w.heap.size 25 [.int .i64 0, .int .i64 0, .int .i64 0, .int .i64 0] ∧ Below w.heap.size w W) ⟨blk_alloc w [.int .i64 0, .int .i64 0, .int .i64 0, .int .i64 0] _, below_alloc (Below.refl _ _) _⟩ ?_
  rintro w1 ⟨zB, b1⟩
  go_wp2_with fail
  refine (HN.out w1 b1).mono ?_
  rintro e w2 ⟨G, y, fp, rfl, ow, nd, hb2⟩
  obtain ⟨a2, rfl, hcl⟩ := cell_num ow (by simp)
  have hge := own_ge ow (by simp)
  have hlz : w.heap.size < w1.heap.size := zB.lt
  have bw2 := below_trans b1 hb2
  replace zB := zB.below hb2
  have x0 := cell_below bw2 hw0
  go_upto_region 6 with fail
  go_region_held3 (fun W => W.cell? a = some (.string ⟨#[119, 114, 105, 116, 101]⟩)) (first | (with_reducible exact x0) | (refine cell_below (show Below w2.heap.size w2 _ from ?_) x0 <;> ((repeat (first | (with_reducible assumption) | (with_reducible exact Below.refl _ _) | (with_reducible apply below_alloc) | (with_reducible apply below_drewN) | (with_reducible apply Below.drew) | (with_reducible refine below_set ?_ (by dsimp only; omega) _) | (with_reducible refine below_trans ?_ (by assumption)))); done)) | go_keep) (first | (go_at_call 31; (with_reducible refine (HD.out _ (tab_below htab ?_)).mono ?_); (focus ((repeat (first | (with_reducible assumption) | (with_reducible exact Below.refl _ _) | (with_reducible apply below_alloc) | (with_reducible apply below_drewN) | (with_reducible apply Below.drew) | (with_reducible refine below_set ?_ (by dsimp only; omega) _) | (with_reducible refine below_trans ?_ (by assumption)))); done)); rintro e wd ⟨rfl, hbd⟩))
  have n0 : wd.cell? a2 = some (.int .i64 (V : Int)) := cell_below (show Below w2.heap.size w2 wd by repeat (first | (with_reducible assumption) | (with_reducible exact Below.refl _ _) | (with_reducible apply below_alloc) | (with_reducible apply below_drewN) | (with_reducible apply Below.drew) | (with_reducible refine below_set ?_ (by dsimp only; omega) _) | (with_reducible refine below_trans ?_ (by assumption)))) (by have := hcl 0 (by simp); rw [show a2.add 0 = a2 from by cases a2; rfl] at this; exact this)
  have n1 : wd.cell? ⟨a2.block, a2.off + 1, none⟩ = some (.int .i64 (T : Int)) := cell_below (show Below w2.heap.size w2 wd by repeat (first | (with_reducible assumption) | (with_reducible exact Below.refl _ _) | (with_reducible apply below_alloc) | (with_reducible apply below_drewN) | (with_reducible apply Below.drew) | (with_reducible refine below_set ?_ (by dsimp only; omega) _) | (with_reducible refine below_trans ?_ (by assumption)))) (by have := hcl 1 (by simp); exact this)
  have n2 : wd.cell? ⟨a2.block, a2.off + 2, none⟩ = some (.int .i64 (X : Int)) := cell_below (show Below w2.heap.size w2 wd by repeat (first | (with_reducible assumption) | (with_reducible exact Below.refl _ _) | (with_reducible apply below_alloc) | (with_reducible apply below_drewN) | (with_reducible apply Below.drew) | (with_reducible refine below_set ?_ (by dsimp only; omega) _) | (with_reducible refine below_trans ?_ (by assumption)))) (by have := hcl 2 (by simp); exact this)
  replace zB := zB.below (show Below w2.heap.size w2 wd by repeat (first | (with_reducible assumption) | (with_reducible exact Below.refl _ _) | (with_reducible apply below_alloc) | (with_reducible apply below_drewN) | (with_reducible apply Below.drew) | (with_reducible refine below_set ?_ (by dsimp only; omega) _) | (with_reducible refine below_trans ?_ (by assumption))))
  have bwd : Below w.heap.size w wd := by repeat (first | (with_reducible assumption) | (with_reducible exact Below.refl _ _) | (with_reducible apply below_alloc) | (with_reducible apply below_drewN) | (with_reducible apply Below.drew) | (with_reducible refine below_set ?_ (by dsimp only; omega) _) | (with_reducible refine below_trans ?_ (by assumption)))
  clear hcl HN ow HD htab hw0 x0 bw2 hbd hb2 b1
  have r0 := zB.cell (j := 0) rfl
  have y0 := zB.frozen 0
  have r1 := zB.cell (j := 1) rfl
  have y1 := zB.frozen 1
  have r2 := zB.cell (j := 2) rfl
  have y2 := zB.frozen 2
  have r3 := zB.cell (j := 3) rfl
  have y3 := zB.frozen 3
  have lz := zB.lt
  go_upto_region 10 with fail
  have hp : w.heap.size ≠ a2.block := by omega
  go_region_held3 (fun W => W.cell? a2 = some (.int .i64 (V : Int)) ∧ W.cell? ⟨a2.block, a2.off + 1, none⟩ = some (.int .i64 (T : Int)) ∧ W.cell? ⟨a2.block, a2.off + 2, none⟩ = some (.int .i64 (X : Int))) (first | (with_reducible exact ⟨n0, n1, n2⟩) | (simp only [World.cell?_setCell_far _ _ _ _ hp, n0, n1, n2, and_self]; done) | go_keep) (fail)
  all_goals (go_wp2_with fail)
  all_goals exact bodyPost_ret (v := .tuple #[.agg #[.int .i64 2, .int .i64 (V : Int), .int .i64 (T : Int), .int .i64 (X : Int)], .bool true]) (by simp [results, Tryz.results46, go_sem, r0, r1, r2, r3]) rfl ⟨rfl, by repeat (first | (with_reducible assumption) | (with_reducible exact Below.refl _ _) | (with_reducible apply below_alloc) | (with_reducible apply below_drewN) | (with_reducible apply Below.drew) | (with_reducible refine below_set ?_ (by dsimp only; omega) _) | (with_reducible refine below_trans ?_ (by assumption)))⟩
set_option maxRecDepth 100000 in
set_option maxHeartbeats 4000000 in
theorem readOp_3 (V T : Nat) (hV : V ≤ 999) (hT : T ≤ 999) (a : Addr) (c : Nat) (w : World) (htab : Lib.TabIs Tryz.prog w "internal/strconv.uint64pow10" .u64 Lib.pow10Tab) (hr : RdS kStr w (some a) c ((⟨#[100, 105, 115, 99, 97, 114, 100]⟩ : ByteArray) :: ([V, T] : List Nat).map numS)) :
    Calls Tryz.prog 46 #[.slice (some a) 3 c] w fun r w' => r = .returned (.tuple #[.agg #[.int .i64 3, .int .i64 (V : Int), .int .i64 (T : Int), .int .i64 0], .bool true]) ∧ Below w.heap.size w w' := by
  have hcap : 3 ≤ c := by simpa using hr.1
  have hc63 : c ≤ 9223372036854775807 := by have := hr.2.1; unfold maxLen at this; omega
  have hw0 : w.cell? a = some (.string ⟨#[100, 105, 115, 99, 97, 114, 100]⟩) := by
    obtain ⟨a', ea, hx⟩ := hr.at_ (k := 0) (by simp)
    obtain rfl := Option.some.inj ea
    have := atStr hx
    rw [show a.add (0 * kStr.sz) = a from by cases a; rfl] at this
    exact this
  have hrd : RdS kStr w (some (a.add 1)) (c - 1) (([V, T] : List Nat).map numS) := by
    have := hr.drop 1 (by simp)
    rw [show 1 * kStr.sz = 1 from rfl] at this
    exact this
  have HN := Lib.hid (fun (W : World) (hW : Below w.heap.size w W) => numbersOf_c [V, T] (by simp; omega) (some (a.add 1)) (c - 1) W (hrd.below hW) (by simp))
  have hDec := decimal_c 2 (by omega)
  rw [numS_dig 2 (by omega), show ((2 : Nat) : Int) = 2 from rfl] at hDec
  have HD := Lib.hid hDec
  have hcat : ((⟨#[100, 105, 115, 99, 97, 114, 100]⟩ : ByteArray) ++ ⟨#[32]⟩) ++ ⟨#[50]⟩ = ⟨#[100, 105, 115, 99, 97, 114, 100, 32, 50]⟩ := by decide
  have e1 : ((⟨#[100, 105, 115, 99, 97, 114, 100, 32, 50]⟩ : ByteArray) == ⟨#[99, 114, 101, 97, 116, 101, 32, 50]⟩) = false := by decide
  have e2 : ((⟨#[100, 105, 115, 99, 97, 114, 100, 32, 50]⟩ : ByteArray) == ⟨#[119, 114, 105, 116, 101, 32, 51]⟩) = false := by decide
  have e3 : ((⟨#[100, 105, 115, 99, 97, 114, 100, 32, 50]⟩ : ByteArray) == ⟨#[100, 105, 115, 99, 97, 114, 100, 32, 50]⟩) = true := by decide
  clear hr hrd hDec
  go_enter Tryz.func46, Tryz.ntmps46
  go_upto_region 1 with fail
  refine at_world (fun W => Blk W w.heap.size 25 [.int .i64 0, .int .i64 0, .int .i64 0, .int .i64 0] ∧ Below w.heap.size w W) ⟨blk_alloc w [.int .i64 0, .int .i64 0, .int .i64 0, .int .i64 0] _, below_alloc (Below.refl _ _) _⟩ ?_
  rintro w1 ⟨zB, b1⟩
  go_wp2_with fail
  refine (HN.out w1 b1).mono ?_
  rintro e w2 ⟨G, y, fp, rfl, ow, nd, hb2⟩
  obtain ⟨a2, rfl, hcl⟩ := cell_num ow (by simp)
  have hge := own_ge ow (by simp)
  have hlz : w.heap.size < w1.heap.size := zB.lt
  have bw2 := below_trans b1 hb2
  replace zB := zB.below hb2
  have x0 := cell_below bw2 hw0
  go_upto_region 6 with fail
  go_region_held3 (fun W => W.cell? a = some (.string ⟨#[100, 105, 115, 99, 97, 114, 100]⟩)) (first | (with_reducible exact x0) | (refine cell_below (show Below w2.heap.size w2 _ from ?_) x0 <;> ((repeat (first | (with_reducible assumption) | (with_reducible exact Below.refl _ _) | (with_reducible apply below_alloc) | (with_reducible apply below_drewN) | (with_reducible apply Below.drew) | (with_reducible refine below_set ?_ (by dsimp only; omega) _) | (with_reducible refine below_trans ?_ (by assumption)))); done)) | go_keep) (first | (go_at_call 31; (with_reducible refine (HD.out _ (tab_below htab ?_)).mono ?_); (focus ((repeat (first | (with_reducible assumption) | (with_reducible exact Below.refl _ _) | (with_reducible apply below_alloc) | (with_reducible apply below_drewN) | (with_reducible apply Below.drew) | (with_reducible refine below_set ?_ (by dsimp only; omega) _) | (with_reducible refine below_trans ?_ (by assumption)))); done)); rintro e wd ⟨rfl, hbd⟩))
  have n0 : wd.cell? a2 = some (.int .i64 (V : Int)) := cell_below (show Below w2.heap.size w2 wd by repeat (first | (with_reducible assumption) | (with_reducible exact Below.refl _ _) | (with_reducible apply below_alloc) | (with_reducible apply below_drewN) | (with_reducible apply Below.drew) | (with_reducible refine below_set ?_ (by dsimp only; omega) _) | (with_reducible refine below_trans ?_ (by assumption)))) (by have := hcl 0 (by simp); rw [show a2.add 0 = a2 from by cases a2; rfl] at this; exact this)
  have n1 : wd.cell? ⟨a2.block, a2.off + 1, none⟩ = some (.int .i64 (T : Int)) := cell_below (show Below w2.heap.size w2 wd by repeat (first | (with_reducible assumption) | (with_reducible exact Below.refl _ _) | (with_reducible apply below_alloc) | (with_reducible apply below_drewN) | (with_reducible apply Below.drew) | (with_reducible refine below_set ?_ (by dsimp only; omega) _) | (with_reducible refine below_trans ?_ (by assumption)))) (by have := hcl 1 (by simp); exact this)
  replace zB := zB.below (show Below w2.heap.size w2 wd by repeat (first | (with_reducible assumption) | (with_reducible exact Below.refl _ _) | (with_reducible apply below_alloc) | (with_reducible apply below_drewN) | (with_reducible apply Below.drew) | (with_reducible refine below_set ?_ (by dsimp only; omega) _) | (with_reducible refine below_trans ?_ (by assumption))))
  have bwd : Below w.heap.size w wd := by repeat (first | (with_reducible assumption) | (with_reducible exact Below.refl _ _) | (with_reducible apply below_alloc) | (with_reducible apply below_drewN) | (with_reducible apply Below.drew) | (with_reducible refine below_set ?_ (by dsimp only; omega) _) | (with_reducible refine below_trans ?_ (by assumption)))
  clear hcl HN ow HD htab hw0 x0 bw2 hbd hb2 b1
  have r0 := zB.cell (j := 0) rfl
  have y0 := zB.frozen 0
  have r1 := zB.cell (j := 1) rfl
  have y1 := zB.frozen 1
  have r2 := zB.cell (j := 2) rfl
  have y2 := zB.frozen 2
  have r3 := zB.cell (j := 3) rfl
  have y3 := zB.frozen 3
  have lz := zB.lt
  go_upto_region 12 with fail
  have hp : w.heap.size ≠ a2.block := by omega
  go_region_held3 (fun W => W.cell? a2 = some (.int .i64 (V : Int)) ∧ W.cell? ⟨a2.block, a2.off + 1, none⟩ = some (.int .i64 (T : Int))) (first | (with_reducible exact ⟨n0, n1⟩) | (simp only [World.cell?_setCell_far _ _ _ _ hp, n0, n1, and_self]; done) | go_keep) (fail)
  all_goals (go_wp2_with fail)
  all_goals exact bodyPost_ret (v := .tuple #[.agg #[.int .i64 3, .int .i64 (V : Int), .int .i64 (T : Int), .int .i64 0], .bool true]) (by simp [results, Tryz.results46, go_sem, r0, r1, r2, r3]) rfl ⟨rfl, by repeat (first | (with_reducible assumption) | (with_reducible exact Below.refl _ _) | (with_reducible apply below_alloc) | (with_reducible apply below_drewN) | (with_reducible apply Below.drew) | (with_reducible refine below_set ?_ (by dsimp only; omega) _) | (with_reducible refine below_trans ?_ (by assumption)))⟩
set_option maxRecDepth 100000 in
set_option maxHeartbeats 4000000 in
theorem readOp_4 (V T : Nat) (hV : V ≤ 999) (hT : T ≤ 999) (a : Addr) (c : Nat) (w : World) (htab : Lib.TabIs Tryz.prog w "internal/strconv.uint64pow10" .u64 Lib.pow10Tab) (hr : RdS kStr w (some a) c ((⟨#[114, 101, 97, 100]⟩ : ByteArray) :: ([V, T] : List Nat).map numS)) :
    Calls Tryz.prog 46 #[.slice (some a) 3 c] w fun r w' => r = .returned (.tuple #[.agg #[.int .i64 4, .int .i64 (V : Int), .int .i64 (T : Int), .int .i64 0], .bool true]) ∧ Below w.heap.size w w' := by
  have hcap : 3 ≤ c := by simpa using hr.1
  have hc63 : c ≤ 9223372036854775807 := by have := hr.2.1; unfold maxLen at this; omega
  have hw0 : w.cell? a = some (.string ⟨#[114, 101, 97, 100]⟩) := by
    obtain ⟨a', ea, hx⟩ := hr.at_ (k := 0) (by simp)
    obtain rfl := Option.some.inj ea
    have := atStr hx
    rw [show a.add (0 * kStr.sz) = a from by cases a; rfl] at this
    exact this
  have hrd : RdS kStr w (some (a.add 1)) (c - 1) (([V, T] : List Nat).map numS) := by
    have := hr.drop 1 (by simp)
    rw [show 1 * kStr.sz = 1 from rfl] at this
    exact this
  have HN := Lib.hid (fun (W : World) (hW : Below w.heap.size w W) => numbersOf_c [V, T] (by simp; omega) (some (a.add 1)) (c - 1) W (hrd.below hW) (by simp))
  have hDec := decimal_c 2 (by omega)
  rw [numS_dig 2 (by omega), show ((2 : Nat) : Int) = 2 from rfl] at hDec
  have HD := Lib.hid hDec
  have hcat : ((⟨#[114, 101, 97, 100]⟩ : ByteArray) ++ ⟨#[32]⟩) ++ ⟨#[50]⟩ = ⟨#[114, 101, 97, 100, 32, 50]⟩ := by decide
  have e1 : ((⟨#[114, 101, 97, 100, 32, 50]⟩ : ByteArray) == ⟨#[99, 114, 101, 97, 116, 101, 32, 50]⟩) = false := by decide
  have e2 : ((⟨#[114, 101, 97, 100, 32, 50]⟩ : ByteArray) == ⟨#[119, 114, 105, 116, 101, 32, 51]⟩) = false := by decide
  have e3 : ((⟨#[114, 101, 97, 100, 32, 50]⟩ : ByteArray) == ⟨#[100, 105, 115, 99, 97, 114, 100, 32, 50]⟩) = false := by decide
  have e4 : ((⟨#[114, 101, 97, 100, 32, 50]⟩ : ByteArray) == ⟨#[114, 101, 97, 100, 32, 50]⟩) = true := by decide
  clear hr hrd hDec
  go_enter Tryz.func46, Tryz.ntmps46
  go_upto_region 1 with fail
  refine at_world (fun W => Blk W w.heap.size 25 [.int .i64 0, .int .i64 0, .int .i64 0, .int .i64 0] ∧ Below w.heap.size w W) ⟨blk_alloc w [.int .i64 0, .int .i64 0, .int .i64 0, .int .i64 0] _, below_alloc (Below.refl _ _) _⟩ ?_
  rintro w1 ⟨zB, b1⟩
  go_wp2_with fail
  refine (HN.out w1 b1).mono ?_
  rintro e w2 ⟨G, y, fp, rfl, ow, nd, hb2⟩
  obtain ⟨a2, rfl, hcl⟩ := cell_num ow (by simp)
  have hge := own_ge ow (by simp)
  have hlz : w.heap.size < w1.heap.size := zB.lt
  have bw2 := below_trans b1 hb2
  replace zB := zB.below hb2
  have x0 := cell_below bw2 hw0
  go_upto_region 6 with fail
  go_region_held3 (fun W => W.cell? a = some (.string ⟨#[114, 101, 97, 100]⟩)) (first | (with_reducible exact x0) | (refine cell_below (show Below w2.heap.size w2 _ from ?_) x0 <;> ((repeat (first | (with_reducible assumption) | (with_reducible exact Below.refl _ _) | (with_reducible apply below_alloc) | (with_reducible apply below_drewN) | (with_reducible apply Below.drew) | (with_reducible refine below_set ?_ (by dsimp only; omega) _) | (with_reducible refine below_trans ?_ (by assumption)))); done)) | go_keep) (first | (go_at_call 31; (with_reducible refine (HD.out _ (tab_below htab ?_)).mono ?_); (focus ((repeat (first | (with_reducible assumption) | (with_reducible exact Below.refl _ _) | (with_reducible apply below_alloc) | (with_reducible apply below_drewN) | (with_reducible apply Below.drew) | (with_reducible refine below_set ?_ (by dsimp only; omega) _) | (with_reducible refine below_trans ?_ (by assumption)))); done)); rintro e wd ⟨rfl, hbd⟩))
  have n0 : wd.cell? a2 = some (.int .i64 (V : Int)) := cell_below (show Below w2.heap.size w2 wd by repeat (first | (with_reducible assumption) | (with_reducible exact Below.refl _ _) | (with_reducible apply below_alloc) | (with_reducible apply below_drewN) | (with_reducible apply Below.drew) | (with_reducible refine below_set ?_ (by dsimp only; omega) _) | (with_reducible refine below_trans ?_ (by assumption)))) (by have := hcl 0 (by simp); rw [show a2.add 0 = a2 from by cases a2; rfl] at this; exact this)
  have n1 : wd.cell? ⟨a2.block, a2.off + 1, none⟩ = some (.int .i64 (T : Int)) := cell_below (show Below w2.heap.size w2 wd by repeat (first | (with_reducible assumption) | (with_reducible exact Below.refl _ _) | (with_reducible apply below_alloc) | (with_reducible apply below_drewN) | (with_reducible apply Below.drew) | (with_reducible refine below_set ?_ (by dsimp only; omega) _) | (with_reducible refine below_trans ?_ (by assumption)))) (by have := hcl 1 (by simp); exact this)
  replace zB := zB.below (show Below w2.heap.size w2 wd by repeat (first | (with_reducible assumption) | (with_reducible exact Below.refl _ _) | (with_reducible apply below_alloc) | (with_reducible apply below_drewN) | (with_reducible apply Below.drew) | (with_reducible refine below_set ?_ (by dsimp only; omega) _) | (with_reducible refine below_trans ?_ (by assumption))))
  have bwd : Below w.heap.size w wd := by repeat (first | (with_reducible assumption) | (with_reducible exact Below.refl _ _) | (with_reducible apply below_alloc) | (with_reducible apply below_drewN) | (with_reducible apply Below.drew) | (with_reducible refine below_set ?_ (by dsimp only; omega) _) | (with_reducible refine below_trans ?_ (by assumption)))
  clear hcl HN ow HD htab hw0 x0 bw2 hbd hb2 b1
  have r0 := zB.cell (j := 0) rfl
  have y0 := zB.frozen 0
  have r1 := zB.cell (j := 1) rfl
  have y1 := zB.frozen 1
  have r2 := zB.cell (j := 2) rfl
  have y2 := zB.frozen 2
  have r3 := zB.cell (j := 3) rfl
  have y3 := zB.frozen 3
  have lz := zB.lt
  go_upto_region 14 with fail
  have hp : w.heap.size ≠ a2.block := by omega
  go_region_held3 (fun W => W.cell? a2 = some (.int .i64 (V : Int)) ∧ W.cell? ⟨a2.block, a2.off + 1, none⟩ = some (.int .i64 (T : Int))) (first | (with_reducible exact ⟨n0, n1⟩) | (simp only [World.cell?_setCell_far _ _ _ _ hp, n0, n1, and_self]; done) | go_keep) (fail)
  all_goals (go_wp2_with fail)
  all_goals exact bodyPost_ret (v := .tuple #[.agg #[.int .i64 4, .int .i64 (V : Int), .int .i64 (T : Int), .int .i64 0], .bool true]) (by simp [results, Tryz.results46, go_sem, r0, r1, r2, r3]) rfl ⟨rfl, by repeat (first | (with_reducible assumption) | (with_reducible exact Below.refl _ _) | (with_reducible apply below_alloc) | (with_reducible apply below_drewN) | (with_reducible apply Below.drew) | (with_reducible refine below_set ?_ (by dsimp only; omega) _) | (with_reducible refine below_trans ?_ (by assumption)))⟩
set_option maxRecDepth 100000 in
set_option maxHeartbeats 4000000 in
theorem readOp_5 (V X : Nat) (hV : V ≤ 999) (hX : X ≤ 999) (a : Addr) (c : Nat) (w : World) (htab : Lib.TabIs Tryz.prog w "internal/strconv.uint64pow10" .u64 Lib.pow10Tab) (hr : RdS kStr w (some a) c ((⟨#[115, 110, 97, 112]⟩ : ByteArray) :: ([V, X] : List Nat).map numS)) :
    Calls Tryz.prog 46 #[.slice (some a) 3 c] w fun r w' => r = .returned (.tuple #[.agg #[.int .i64 5, .int .i64 (V : Int), .int .i64 0, .int .i64 (X : Int)], .bool true]) ∧ Below w.heap.size w w' := by
  have hcap : 3 ≤ c := by simpa using hr.1
  have hc63 : c ≤ 9223372036854775807 := by have := hr.2.1; unfold maxLen at this; omega
  have hw0 : w.cell? a = some (.string ⟨#[115, 110, 97, 112]⟩) := by
    obtain ⟨a', ea, hx⟩ := hr.at_ (k := 0) (by simp)
    obtain rfl := Option.some.inj ea
    have := atStr hx
    rw [show a.add (0 * kStr.sz) = a from by cases a; rfl] at this
    exact this
  have hrd : RdS kStr w (some (a.add 1)) (c - 1) (([V, X] : List Nat).map numS) := by
    have := hr.drop 1 (by simp)
    rw [show 1 * kStr.sz = 1 from rfl] at this
    exact this
  have HN := Lib.hid (fun (W : World) (hW : Below w.heap.size w W) => numbersOf_c [V, X] (by simp; omega) (some (a.add 1)) (c - 1) W (hrd.below hW) (by simp))
  have hDec := decimal_c 2 (by omega)
  rw [numS_dig 2 (by omega), show ((2 : Nat) : Int) = 2 from rfl] at hDec
  have HD := Lib.hid hDec
  have hcat : ((⟨#[115, 110, 97, 112]⟩ : ByteArray) ++ ⟨#[32]⟩) ++ ⟨#[50]⟩ = ⟨#[115, 110, 97, 112, 32, 50]⟩ := by decide
  have e1 : ((⟨#[115, 110, 97, 112, 32, 50]⟩ : ByteArray) == ⟨#[99, 114, 101, 97, 116, 101, 32, 50]⟩) = false := by decide
  have e2 : ((⟨#[115, 110, 97, 112, 32, 50]⟩ : ByteArray) == ⟨#[119, 114, 105, 116, 101, 32, 51]⟩) = false := by decide
  have e3 : ((⟨#[115, 110, 97, 112, 32, 50]⟩ : ByteArray) == ⟨#[100, 105, 115, 99, 97, 114, 100, 32, 50]⟩) = false := by decide
  have e4 : ((⟨#[115, 110, 97, 112, 32, 50]⟩ : ByteArray) == ⟨#[114, 101, 97, 100, 32, 50]⟩) = false := by decide
  have e5 : ((⟨#[115, 110, 97, 112, 32, 50]⟩ : ByteArray) == ⟨#[115, 110, 97, 112, 32, 50]⟩) = true := by decide
  clear hr hrd hDec
  go_enter Tryz.func46, Tryz.ntmps46
  go_upto_region 1 with fail
  refine at_world (fun W => Blk W w.heap.size 25 [.int .i64 0, .int .i64 0, .int .i64 0, .int .i64 0] ∧ Below w.heap.size w W) ⟨blk_alloc w [.int .i64 0, .int .i64 0, .int .i64 0, .int .i64 0] _, below_alloc (Below.refl _ _) _⟩ ?_
  rintro w1 ⟨zB, b1⟩
  go_wp2_with fail
  refine (HN.out w1 b1).mono ?_
  rintro e w2 ⟨G, y, fp, rfl, ow, nd, hb2⟩
  obtain ⟨a2, rfl, hcl⟩ := cell_num ow (by simp)
  have hge := own_ge ow (by simp)
  have hlz : w.heap.size < w1.heap.size := zB.lt
  have bw2 := below_trans b1 hb2
  replace zB := zB.below hb2
  have x0 := cell_below bw2 hw0
  go_upto_region 6 with fail
  go_region_held3 (fun W => W.cell? a = some (.string ⟨#[115, 110, 97, 112]⟩)) (first | (with_reducible exact x0) | (refine cell_below (show Below w2.heap.size w2 _ from ?_) x0 <;> ((repeat (first | (with_reducible assumption) | (with_reducible exact Below.refl _ _) | (with_reducible apply below_alloc) | (with_reducible apply below_drewN) | (with_reducible apply Below.drew) | (with_reducible refine below_set ?_ (by dsimp only; omega) _) | (with_reducible refine below_trans ?_ (by assumption)))); done)) | go_keep) (first | (go_at_call 31; (with_reducible refine (HD.out _ (tab_below htab ?_)).mono ?_); (focus ((repeat (first | (with_reducible assumption) | (with_reducible exact Below.refl _ _) | (with_reducible apply below_alloc) | (with_reducible apply below_drewN) | (with_reducible apply Below.drew) | (with_reducible refine below_set ?_ (by dsimp only; omega) _) | (with_reducible refine below_trans ?_ (by assumption)))); done)); rintro e wd ⟨rfl, hbd⟩))
  have n0 : wd.cell? a2 = some (.int .i64 (V : Int)) := cell_below (show Below w2.heap.size w2 wd by repeat (first | (with_reducible assumption) | (with_reducible exact Below.refl _ _) | (with_reducible apply below_alloc) | (with_reducible apply below_drewN) | (with_reducible apply Below.drew) | (with_reducible refine below_set ?_ (by dsimp only; omega) _) | (with_reducible refine below_trans ?_ (by assumption)))) (by have := hcl 0 (by simp); rw [show a2.add 0 = a2 from by cases a2; rfl] at this; exact this)
  have n1 : wd.cell? ⟨a2.block, a2.off + 1, none⟩ = some (.int .i64 (X : Int)) := cell_below (show Below w2.heap.size w2 wd by repeat (first | (with_reducible assumption) | (with_reducible exact Below.refl _ _) | (with_reducible apply below_alloc) | (with_reducible apply below_drewN) | (with_reducible apply Below.drew) | (with_reducible refine below_set ?_ (by dsimp only; omega) _) | (with_reducible refine below_trans ?_ (by assumption)))) (by have := hcl 1 (by simp); exact this)
  replace zB := zB.below (show Below w2.heap.size w2 wd by repeat (first | (with_reducible assumption) | (with_reducible exact Below.refl _ _) | (with_reducible apply below_alloc) | (with_reducible apply below_drewN) | (with_reducible apply Below.drew) | (with_reducible refine below_set ?_ (by dsimp only; omega) _) | (with_reducible refine below_trans ?_ (by assumption))))
  have bwd : Below w.heap.size w wd := by repeat (first | (with_reducible assumption) | (with_reducible exact Below.refl _ _) | (with_reducible apply below_alloc) | (with_reducible apply below_drewN) | (with_reducible apply Below.drew) | (with_reducible refine below_set ?_ (by dsimp only; omega) _) | (with_reducible refine below_trans ?_ (by assumption)))
  clear hcl HN ow HD htab hw0 x0 bw2 hbd hb2 b1
  have r0 := zB.cell (j := 0) rfl
  have y0 := zB.frozen 0
  have r1 := zB.cell (j := 1) rfl
  have y1 := zB.frozen 1
  have r2 := zB.cell (j := 2) rfl
  have y2 := zB.frozen 2
  have r3 := zB.cell (j := 3) rfl
  have y3 := zB.frozen 3
  have lz := zB.lt
  go_upto_region 16 with fail
  have hp : w.heap.size ≠ a2.block := by omega
  go_region_held3 (fun W => W.cell? a2 = some (.int .i64 (V : Int)) ∧ W.cell? ⟨a2.block, a2.off + 1, none⟩ = some (.int .i64 (X : Int))) (first | (with_reducible exact ⟨n0, n1⟩) | (simp only [World.cell?_setCell_far _ _ _ _ hp, n0, n1, and_self]; done) | go_keep) (fail)
  all_goals (go_wp2_with fail)
  all_goals exact bodyPost_ret (v := .tuple #[.agg #[.int .i64 5, .int .i64 (V : Int), .int .i64 0, .int .i64 (X : Int)], .bool true]) (by simp [results, Tryz.results46, go_sem, r0, r1, r2, r3]) rfl ⟨rfl, by repeat (first | (with_reducible assumption) | (with_reducible exact Below.refl _ _) | (with_reducible apply below_alloc) | (with_reducible apply below_drewN) | (with_reducible apply Below.drew) | (with_reducible refine below_set ?_ (by dsimp only; omega) _) | (with_reducible refine below_trans ?_ (by assumption)))⟩
set_option maxRecDepth 100000 in
set_option maxHeartbeats 4000000 in
theorem readOp_6 (V : Nat) (hV : V ≤ 999) (a : Addr) (c : Nat) (w : World) (htab : Lib.TabIs Tryz.prog w "internal/strconv.uint64pow10" .u64 Lib.pow10Tab) (hr : RdS kStr w (some a) c ((⟨#[100, 101, 108, 101, 116, 101]⟩ : ByteArray) :: ([V] : List Nat).map numS)) :
    Calls Tryz.prog 46 #[.slice (some a) 2 c] w fun r w' => r = .returned (.tuple #[.agg #[.int .i64 6, .int .i64 (V : Int), .int .i64 0, .int .i64 0], .bool true]) ∧ Below w.heap.size w w' := by
  have hcap : 2 ≤ c := by simpa using hr.1
  have hc63 : c ≤ 9223372036854775807 := by have := hr.2.1; unfold maxLen at this; omega
  have hw0 : w.cell? a = some (.string ⟨#[100, 101, 108, 101, 116, 101]⟩) := by
    obtain ⟨a', ea, hx⟩ := hr.at_ (k := 0) (by simp)
    obtain rfl := Option.some.inj ea
    have := atStr hx
    rw [show a.add (0 * kStr.sz) = a from by cases a; rfl] at this
    exact this
  have hrd : RdS kStr w (some (a.add 1)) (c - 1) (([V] : List Nat).map numS) := by
    have := hr.drop 1 (by simp)
    rw [show 1 * kStr.sz = 1 from rfl] at this
    exact this
  have HN := Lib.hid (fun (W : World) (hW : Below w.heap.size w W) => numbersOf_c [V] (by simp; omega) (some (a.add 1)) (c - 1) W (hrd.below hW) (by simp))
  have hDec := decimal_c 1 (by omega)
  rw [numS_dig 1 (by omega), show ((1 : Nat) : Int) = 1 from rfl] at hDec
  have HD := Lib.hid hDec
  have hcat : ((⟨#[100, 101, 108, 101, 116, 101]⟩ : ByteArray) ++ ⟨#[32]⟩) ++ ⟨#[49]⟩ = ⟨#[100, 101, 108, 101, 116, 101, 32, 49]⟩ := by decide
  have e1 : ((⟨#[100, 101, 108, 101, 116, 101, 32, 49]⟩ : ByteArray) == ⟨#[99, 114, 101, 97, 116, 101, 32, 50]⟩) = false := by decide
  have e2 : ((⟨#[100, 101, 108, 101, 116, 101, 32, 49]⟩ : ByteArray) == ⟨#[119, 114, 105, 116, 101, 32, 51]⟩) = false := by decide
  have e3 : ((⟨#[100, 101, 108, 101, 116, 101, 32, 49]⟩ : ByteArray) == ⟨#[100, 105, 115, 99, 97, 114, 100, 32, 50]⟩) = false := by decide
  have e4 : ((⟨#[100, 101, 108, 101, 116, 101, 32, 49]⟩ : ByteArray) == ⟨#[114, 101, 97, 100, 32, 50]⟩) = false := by decide
  have e5 : ((⟨#[100, 101, 108, 101, 116, 101, 32, 49]⟩ : ByteArray) == ⟨#[115, 110, 97, 112, 32, 50]⟩) = false := by decide
  have e6 : ((⟨#[100, 101, 108, 101, 116, 101, 32, 49]⟩ : ByteArray) == ⟨#[100, 101, 108, 101, 116, 101, 32, 49]⟩) = true := by decide
  clear hr hrd hDec
  go_enter Tryz.func46, Tryz.ntmps46
  go_upto_region 1 with fail
  refine at_world (fun W => Blk W w.heap.size 25 [.int .i64 0, .int .i64 0, .int .i64 0, .int .i64 0] ∧ Below w.heap.size w W) ⟨blk_alloc w [.int .i64 0, .int .i64 0, .int .i64 0, .int .i64 0] _, below_alloc (Below.refl _ _) _⟩ ?_
  rintro w1 ⟨zB, b1⟩
  go_wp2_with fail
  refine (HN.out w1 b1).mono ?_
  rintro e w2 ⟨G, y, fp, rfl, ow, nd, hb2⟩
  obtain ⟨a2, rfl, hcl⟩ := cell_num ow (by simp)
  have hge := own_ge ow (by simp)
  have hlz : w.heap.size < w1.heap.size := zB.lt
  have bw2 := below_trans b1 hb2
  replace zB := zB.below hb2
  have x0 := cell_below bw2 hw0
  go_upto_region 6 with fail
  go_region_held3 (fun W => W.cell? a = some (.string ⟨#[100, 101, 108, 101, 116, 101]⟩)) (first | (with_reducible exact x0) | (refine cell_below (show Below w2.heap.size w2 _ from ?_) x0 <;> ((repeat (first | (with_reducible assumption) | (with_reducible exact Below.refl _ _) | (with_reducible apply below_alloc) | (with_reducible apply below_drewN) | (with_reducible apply Below.drew) | (with_reducible refine below_set ?_ (by dsimp only; omega) _) | (with_reducible refine below_trans ?_ (by assumption)))); done)) | go_keep) (first | (go_at_call 31; (with_reducible refine (HD.out _ (tab_below htab ?_)).mono ?_); (focus ((repeat (first | (with_reducible assumption) | (with_reducible exact Below.refl _ _) | (with_reducible apply below_alloc) | (with_reducible apply below_drewN) | (with_reducible apply Below.drew) | (with_reducible refine below_set ?_ (by dsimp only; omega) _) | (with_reducible refine below_trans ?_ (by assumption)))); done)); rintro e wd ⟨rfl, hbd⟩))
  have n0 : wd.cell? a2 = some (.int .i64 (V : Int)) := cell_below (show Below w2.heap.size w2 wd by repeat (first | (with_reducible assumption) | (with_reducible exact Below.refl _ _) | (with_reducible apply below_alloc) | (with_reducible apply below_drewN) | (with_reducible apply Below.drew) | (with_reducible refine below_set ?_ (by dsimp only; omega) _) | (with_reducible refine below_trans ?_ (by assumption)))) (by have := hcl 0 (by simp); rw [show a2.add 0 = a2 from by cases a2; rfl] at this; exact this)
  replace zB := zB.below (show Below w2.heap.size w2 wd by repeat (first | (with_reducible assumption) | (with_reducible exact Below.refl _ _) | (with_reducible apply below_alloc) | (with_reducible apply below_drewN) | (with_reducible apply Below.drew) | (with_reducible refine below_set ?_ (by dsimp only; omega) _) | (with_reducible refine below_trans ?_ (by assumption))))
  have bwd : Below w.heap.size w wd := by repeat (first | (with_reducible assumption) | (with_reducible exact Below.refl _ _) | (with_reducible apply below_alloc) | (with_reducible apply below_drewN) | (with_reducible apply Below.drew) | (with_reducible refine below_set ?_ (by dsimp only; omega) _) | (with_reducible refine below_trans ?_ (by assumption)))
  clear hcl HN ow HD htab hw0 x0 bw2 hbd hb2 b1
  have r0 := zB.cell (j := 0) rfl
  have y0 := zB.frozen 0
  have r1 := zB.cell (j := 1) rfl
  have y1 := zB.frozen 1
  have r2 := zB.cell (j := 2) rfl
  have y2 := zB.frozen 2
  have r3 := zB.cell (j := 3) rfl
  have y3 := zB.frozen 3
  have lz := zB.lt
  go_upto_region 18 with fail
  all_goals (go_wp2_with fail)
  all_goals exact bodyPost_ret (v := .tuple #[.agg #[.int .i64 6, .int .i64 (V : Int), .int .i64 0, .int .i64 0], .bool true]) (by simp [results, Tryz.results46, go_sem, r0, r1, r2, r3]) rfl ⟨rfl, by repeat (first | (with_reducible assumption) | (with_reducible exact Below.refl _ _) | (with_reducible apply below_alloc) | (with_reducible apply below_drewN) | (with_reducible apply Below.drew) | (with_reducible refine below_set ?_ (by dsimp only; omega) _) | (with_reducible refine below_trans ?_ (by assumption)))⟩
theorem opF_kind {o : SOp} (h : opF o = 0) : (o.Kind = 1 ∨ o.Kind = 5 → o.At = 0) ∧ (o.Kind = 3 ∨ o.Kind = 4 → o.Value = 0) ∧ (o.Kind = 6 → o.At = 0 ∧ o.Value = 0) := by
  obtain ⟨⟨k1, k6⟩, -, -, -⟩ := opF_zero h
  obtain ⟨K, V, T, X⟩ := o
  dsimp only at k1 k6 ⊢
  have : K = 1 ∨ K = 2 ∨ K = 3 ∨ K = 4 ∨ K = 5 ∨ K = 6 := by omega
  unfold opF at h
  dsimp only at h
  rcases this with rfl | rfl | rfl | rfl | rfl | rfl <;> simp [wi] at h <;> omega
/-- The words of an operation. -/
def opNs (o : SOp) : List Nat := o.Vol.toNat :: (fieldsO o).map Int.toNat
theorem readOp_c (o : SOp) (h : opF o = 0) (a : Addr) (c : Nat) (w : World) (htab : Lib.TabIs Tryz.prog w "internal/strconv.uint64pow10" .u64 Lib.pow10Tab) (hr : RdS kStr w (some a) c (nameB o.Kind :: (opNs o).map numS)) :
    Calls Tryz.prog 46 #[.slice (some a) ((opNs o).length + 1) c] w fun r w' => r = .returned (.tuple #[.agg #[.int .i64 o.Kind, .int .i64 o.Vol, .int .i64 o.At, .int .i64 o.Value], .bool true]) ∧ Below w.heap.size w w' := by
  obtain ⟨⟨k1, k6⟩, ⟨v1, v9⟩, ⟨a1, a2⟩, ⟨b1, b2⟩⟩ := opF_zero h
  obtain ⟨c15, c34, c6⟩ := opF_kind h
  obtain ⟨K, V, T, X⟩ := o
  dsimp only at k1 k6 v1 v9 a1 a2 b1 b2 c15 c34 c6 hr ⊢
  obtain ⟨V, rfl⟩ := Int.eq_ofNat_of_zero_le (show 0 ≤ V by omega)
  obtain ⟨T, rfl⟩ := Int.eq_ofNat_of_zero_le (show 0 ≤ T by omega)
  obtain ⟨X, rfl⟩ := Int.eq_ofNat_of_zero_le (show 0 ≤ X by omega)
  have hV : V ≤ 999 := by omega
  have hT : T ≤ 999 := by omega
  have hX : X ≤ 999 := by omega
  have : K = 1 ∨ K = 2 ∨ K = 3 ∨ K = 4 ∨ K = 5 ∨ K = 6 := by omega
  rcases this with rfl | rfl | rfl | rfl | rfl | rfl
  · obtain rfl : T = 0 := by have := c15 (by simp); omega
    exact readOp_1 V X hV hX a c w htab hr
  · exact readOp_2 V T X hV hT hX a c w htab hr
  · obtain rfl : X = 0 := by have := c34 (by simp); omega
    exact readOp_3 V T hV hT a c w htab hr
  · obtain rfl : X = 0 := by have := c34 (by simp); omega
    exact readOp_4 V T hV hT a c w htab hr
  · obtain rfl : T = 0 := by have := c15 (by simp); omega
    exact readOp_5 V X hV hX a c w htab hr
  · obtain rfl : T = 0 := by have := (c6 rfl).1; omega
    obtain rfl : X = 0 := by have := (c6 rfl).2; omega
    exact readOp_6 V hV a c w htab hr
end Go.Proofs.YtfblopmploohkaaGreatDoor
