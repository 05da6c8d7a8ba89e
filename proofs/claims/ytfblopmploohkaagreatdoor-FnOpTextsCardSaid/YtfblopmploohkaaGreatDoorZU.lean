/- The ground of the library's contracts at this seat, laid (printed by mklay.py, own work). -/
import Derived.Shelf.Strings.OnBuilder
import Derived.Shelf.Strconv.Itoa4
import Derived.Ground.NamesProg
import Derived.Test.YtfblopmploohkaaGreatDoorProg
import Derived.Test.YtfblopmploohkaaGreatDoorZT
import Derived.Test.YtfblopmploohkaaGreatDoorZA
import Derived.Deep.RegionHeld3
set_option linter.unusedVariables false
namespace Go.Proofs.YtfblopmploohkaaGreatDoor
open Go Go.Shelf Go.Proofs
def fmtL_ren : Go.Shelf.Ren := ⟨fun | 173 => 52 | 246 => 81 | 283 => 115 | 284 => 116 | 285 => 117 | 286 => 118 | 129 => 151 | 317 => 150 | 318 => 152 | 319 => 153 | 320 => 154 | 337 => 176 | 338 => 177 | n => n, fun | 2 => 2 | 3 => 3 | 9 => 9 | 4 => 4 | 171 => 159 | 0 => 0 | 53 => 160 | 37 => 22 | 5 => 5 | 173 => 163 | 212 => 205 | 51 => 206 | 20 => 20 | 213 => 207 | 46 => 170 | 232 => 250 | 233 => 251 | n => n, fun | 17 => 1 | 18 => 4 | 19 => 5 | n => n⟩
theorem fmtL : Go.Proofs.LaysM.n173 Tryz.prog fmtL_ren := {
  mixed := by kernel_rfl,
  f129 := Tryz.func151.trans (congrArg some (by kernel_rfl)),
  f173 := Tryz.func52.trans (congrArg some (by kernel_rfl)),
  f246 := Tryz.func81.trans (congrArg some (by kernel_rfl)),
  f283 := Tryz.func115.trans (congrArg some (by kernel_rfl)),
  f284 := Tryz.func116.trans (congrArg some (by kernel_rfl)),
  f285 := Tryz.func117.trans (congrArg some (by kernel_rfl)),
  f286 := Tryz.func118.trans (congrArg some (by kernel_rfl)),
  f317 := Tryz.func150.trans (congrArg some (by kernel_rfl)),
  f318 := Tryz.func152.trans (congrArg some (by kernel_rfl)),
  f319 := Tryz.func153.trans (congrArg some (by kernel_rfl)),
  f320 := Tryz.func154.trans (congrArg some (by kernel_rfl)),
  f337 := Tryz.func176.trans (congrArg some (by kernel_rfl)),
  f338 := Tryz.func177.trans (congrArg some (by kernel_rfl)),
  t0 := Tryz.underlying0,
  a0 := Tryz.isAgg0,
  z0 := Tryz.sizeOf0,
  v0 := Tryz.zeroValue0,
  t2 := Tryz.underlying2,
  a2 := Tryz.isAgg2,
  z2 := Tryz.sizeOf2,
  v2 := Tryz.zeroValue2,
  t3 := Tryz.underlying3,
  a3 := Tryz.isAgg3,
  z3 := Tryz.sizeOf3,
  v3 := Tryz.zeroValue3,
  t4 := Tryz.underlying4,
  a4 := Tryz.isAgg4,
  z4 := Tryz.sizeOf4,
  v4 := Tryz.zeroValue4,
  t5 := Tryz.underlying5,
  a5 := Tryz.isAgg5,
  z5 := Tryz.sizeOf5,
  v5 := Tryz.zeroValue5,
  t9 := Tryz.underlying9,
  a9 := Tryz.isAgg9,
  z9 := Tryz.sizeOf9,
  v9 := Tryz.zeroValue9,
  t20 := Tryz.underlying20,
  a20 := Tryz.isAgg20,
  z20 := Tryz.sizeOf20,
  v20 := Tryz.zeroValue20,
  t37 := Tryz.underlying22,
  a37 := Tryz.isAgg22,
  z37 := Tryz.sizeOf22,
  v37 := Tryz.zeroValue22,
  t46 := Tryz.underlying170,
  a46 := Tryz.isAgg170,
  z46 := Tryz.sizeOf170,
  v46 := Tryz.zeroValue170,
  t51 := Tryz.underlying206,
  a51 := Tryz.isAgg206,
  z51 := Tryz.sizeOf206,
  v51 := Tryz.zeroValue206,
  t53 := Tryz.underlying160,
  a53 := Tryz.isAgg160,
  z53 := Tryz.sizeOf160,
  v53 := Tryz.zeroValue160,
  t171 := Tryz.underlying159,
  a171 := Tryz.isAgg159,
  z171 := Tryz.sizeOf159,
  v171 := Tryz.zeroValue159,
  t173 := Tryz.underlying163,
  a173 := Tryz.isAgg163,
  z173 := Tryz.sizeOf163,
  v173 := Tryz.zeroValue163,
  t212 := Tryz.underlying205,
  a212 := Tryz.isAgg205,
  z212 := Tryz.sizeOf205,
  v212 := Tryz.zeroValue205,
  t213 := Tryz.underlying207,
  a213 := Tryz.isAgg207,
  z213 := Tryz.sizeOf207,
  t232 := Tryz.underlying250,
  a232 := Tryz.isAgg250,
  z232 := Tryz.sizeOf250,
  v232 := Tryz.zeroValue250,
  t233 := Tryz.underlying251,
  a233 := Tryz.isAgg251,
  z233 := Tryz.sizeOf251,
  v233 := Tryz.zeroValue251,
  g17 := by kernel_rfl,
  g18 := by kernel_rfl,
  g19 := by kernel_rfl,
  i0 := by kernel_rfl,
  i2 := by kernel_rfl,
  i3 := by kernel_rfl,
  i4 := by kernel_rfl,
  i5 := by kernel_rfl,
  i9 := by kernel_rfl,
  i20 := by kernel_rfl,
  i37 := by kernel_rfl,
  i46 := by kernel_rfl,
  i51 := by kernel_rfl,
  i53 := by kernel_rfl,
  i171 := by kernel_rfl,
  i173 := by kernel_rfl,
  i212 := by kernel_rfl,
  i232 := by kernel_rfl,
  i233 := by kernel_rfl,
  m17 := by kernel_rfl,
  m18 := by kernel_rfl,
  m19 := by kernel_rfl }
def joinL_ren : Go.Shelf.Ren := ⟨fun | 156 => 32 | 165 => 53 | 166 => 54 | 169 => 55 | 240 => 82 | 241 => 83 | 276 => 119 | 277 => 120 | n => n, fun | 31 => 41 | 9 => 9 | 3 => 3 | 4 => 4 | 0 => 0 | 20 => 20 | 72 => 94 | 76 => 98 | 70 => 92 | 37 => 22 | 75 => 97 | 127 => 134 | 164 => 165 | 5 => 5 | 80 => 100 | n => n, fun | n => n⟩
theorem joinL : Go.Proofs.Lays.n156 Tryz.prog joinL_ren := {
  mixed := by kernel_rfl,
  f156 := Tryz.func32.trans (congrArg some (by kernel_rfl)),
  f165 := Tryz.func53.trans (congrArg some (by kernel_rfl)),
  f166 := Tryz.func54.trans (congrArg some (by kernel_rfl)),
  f169 := Tryz.func55.trans (congrArg some (by kernel_rfl)),
  f240 := Tryz.func82.trans (congrArg some (by kernel_rfl)),
  f241 := Tryz.func83.trans (congrArg some (by kernel_rfl)),
  f276 := Tryz.func119.trans (congrArg some (by kernel_rfl)),
  f277 := Tryz.func120.trans (congrArg some (by kernel_rfl)),
  t0 := Tryz.underlying0,
  a0 := Tryz.isAgg0,
  z0 := Tryz.sizeOf0,
  v0 := Tryz.zeroValue0,
  t3 := Tryz.underlying3,
  a3 := Tryz.isAgg3,
  z3 := Tryz.sizeOf3,
  v3 := Tryz.zeroValue3,
  t4 := Tryz.underlying4,
  a4 := Tryz.isAgg4,
  z4 := Tryz.sizeOf4,
  v4 := Tryz.zeroValue4,
  t9 := Tryz.underlying9,
  a9 := Tryz.isAgg9,
  z9 := Tryz.sizeOf9,
  v9 := Tryz.zeroValue9,
  t20 := Tryz.underlying20,
  a20 := Tryz.isAgg20,
  z20 := Tryz.sizeOf20,
  v20 := Tryz.zeroValue20,
  t31 := Tryz.underlying41,
  a31 := Tryz.isAgg41,
  z31 := Tryz.sizeOf41,
  v31 := Tryz.zeroValue41,
  t37 := Tryz.underlying22,
  a37 := Tryz.isAgg22,
  z37 := Tryz.sizeOf22,
  v37 := Tryz.zeroValue22,
  t70 := Tryz.underlying92,
  a70 := Tryz.isAgg92,
  z70 := Tryz.sizeOf92,
  v70 := Tryz.zeroValue92,
  t72 := Tryz.underlying94,
  a72 := Tryz.isAgg94,
  z72 := Tryz.sizeOf94,
  v72 := Tryz.zeroValue94,
  t75 := Tryz.underlying97,
  a75 := Tryz.isAgg97,
  z75 := Tryz.sizeOf97,
  v75 := Tryz.zeroValue97,
  t76 := Tryz.underlying98,
  a76 := Tryz.isAgg98,
  z76 := Tryz.sizeOf98,
  v76 := Tryz.zeroValue98,
  t127 := Tryz.underlying134,
  a127 := Tryz.isAgg134,
  z127 := Tryz.sizeOf134,
  v127 := Tryz.zeroValue134,
  t164 := Tryz.underlying165,
  a164 := Tryz.isAgg165,
  z164 := Tryz.sizeOf165,
  v164 := Tryz.zeroValue165 }
end Go.Proofs.YtfblopmploohkaaGreatDoor

/- Decimal numerals on both sides; a line of a word and numbers (own work). -/
set_option linter.unusedVariables false
set_option linter.unusedSimpArgs false
namespace Go.Proofs.YtfblopmploohkaaGreatDoor
open Go Go.RowKit Mk
theorem below_grow (w : World) (q : Nat) (os : Array Obj) : Below w.heap.size w (Sort.grow (w.drewN q) os) :=
  ⟨rfl, rfl, rfl, by simp [Sort.grow], fun i hi => by
    show ((w.drewN q).heap ++ os)[i]? = _
    rw [Array.getElem?_append_left (by show i < w.heap.size; omega)]
    rfl⟩
theorem tab_below {w w' : World} {zs : List Int} (h : Lib.TabIs Tryz.prog w "internal/strconv.uint64pow10" .u64 zs) (hb : Below w.heap.size w w') : Lib.TabIs Tryz.prog w' "internal/strconv.uint64pow10" .u64 zs := by
  unfold Lib.TabIs World.var? at h ⊢
  obtain ⟨g, hg⟩ : ∃ g, (Tryz.prog).globalNamed "internal/strconv.uint64pow10" = some g := by
    cases h0 : (Tryz.prog).globalNamed "internal/strconv.uint64pow10" with
    | none => rw [h0] at h; simp at h
    | some g => exact ⟨g, rfl⟩
  simp only [hg, Option.bind_some] at h ⊢
  have hlt : g < w.heap.size := by
    rcases Nat.lt_or_ge g w.heap.size with h' | h'
    · exact h'
    · rw [Array.getElem?_eq_none h'] at h; simp at h
  rw [hb.block g hlt]
  exact h
theorem joinX : Builder.Extra Tryz.prog joinL_ren := { sizeBuilder := by kernel_rfl, liesBuilder := by kernel_rfl, t5 := Tryz.underlying5, a5 := Tryz.isAgg5, z5 := Tryz.sizeOf5, v5 := Tryz.zeroValue5, infoByte := by kernel_rfl, cellsByte := by kernel_rfl, sizeByte := by kernel_rfl, neB5 := by decide }
/-- A numeral. -/
def numS (n : Nat) : ByteArray := ⟨(Lib.decDigits n).toArray⟩
theorem dec_small {n : Nat} (h : n < 10) : Lib.decDigits n = [UInt8.ofNat (48 + n)] := by rw [Lib.decDigits, dif_pos h]
theorem dec_big {n : Nat} (h : ¬ n < 10) : Lib.decDigits n = Lib.decDigits (n / 10) ++ [UInt8.ofNat (48 + n % 10)] := by rw [Lib.decDigits, dif_neg h]
theorem dec_len : ∀ n, (Lib.decDigits n).length ≤ n + 1 := by
  intro n
  induction n using Nat.strongRecOn with
  | _ n ih =>
    by_cases h : n < 10
    · rw [dec_small h]; simp
    · rw [dec_big h]
      have := ih (n / 10) (by omega)
      simp
      omega
theorem numS_size (n : Nat) : (numS n).size = (Lib.decDigits n).length := by simp [numS, ByteArray.size]
theorem mk_append (a b : List UInt8) : (⟨a.toArray⟩ : ByteArray) ++ ⟨b.toArray⟩ = ⟨(a ++ b).toArray⟩ := by
  apply ByteArray.ext
  simp
theorem decimal_c (n : Nat) (hn : n ≤ 1000) (w : World) (htab : Lib.TabIs Tryz.prog w "internal/strconv.uint64pow10" .u64 Lib.pow10Tab) :
    Calls Tryz.prog 31 #[.int .i64 n] w fun e w' => e = .returned (.string (numS n)) ∧ Below w.heap.size w w' := by
  have hF := Any.strconv_FormatInt_10 fmtL (n : Int) (by omega) (by omega) w htab
  rw [show Lib.itoa (n : Int) = Lib.decDigits n by unfold Lib.itoa; rw [if_neg (by omega)]; rfl] at hF
  have HF := Lib.hid hF
  go_enter Tryz.func31, Tryz.ntmps31
  go_wp2_with fail
  refine (HF.out).mono ?_
  rintro e w1 ⟨rfl, k, os, rfl⟩
  go_wp2_with fail
  go_ret
  exact ⟨rfl, below_grow _ _ _⟩
theorem convB (W : World) (g : Nat) (x : Int) (h : Blk W g 5 [.int .u8 x]) : Sem.run Tryz.prog (convert 22 9 (.slice (some ⟨g, 0, none⟩) 1 1)) W = .ok (.string (ByteArray.empty.push (UInt8.ofNat x.toNat))) W := by
  rw [run_convert_bytes_string W 22 9 5 (some ⟨g, 0, none⟩) 1 1 (by kernel_rfl) (by kernel_rfl) (by kernel_rfl)]
  have hl : Lies W ⟨g, 0, none⟩ [.int .u8 x] := Blk.liesMid (c1 := []) (c2 := []) (by simpa using h) rfl
  exact run_bytesToString W ⟨g, 0, none⟩ 1 1 [x] (hl.load Tryz.prog 1 rfl)
set_option maxRecDepth 100000 in
set_option maxHeartbeats 1000000 in
theorem l6Digits_c : ∀ (n : Nat) (hn : n ≤ 1000) (w : World), Calls Tryz.prog 37 #[.int .i64 n] w fun e w' => e = .returned (.string (numS n)) ∧ Below w.heap.size w w' := by
  intro n
  induction n using Nat.strongRecOn with
  | _ n ih =>
    intro hn w
    by_cases h : n < 10
    · have hd : decide ((n : Int) < 10) = true := decide_eq_true (by omega)
      have hcv := conv1
      have hN := Lib.hid (show numS n = ByteArray.empty.push (UInt8.ofNat (48 + n)) by unfold numS; rw [dec_small h]; rfl)
      clear ih
      go_enter Tryz.func37, Tryz.ntmps37
      go_wp2_with fail
      go_ret
      exact ⟨by rw [hN.out]; rfl, by repeat (first | (with_reducible assumption) | (with_reducible exact Below.refl _ _) | (with_reducible apply below_alloc) | (with_reducible apply below_drewN) | (with_reducible apply Below.drew) | (with_reducible refine below_set ?_ (by dsimp only; omega) _) | (with_reducible refine below_trans ?_ (by assumption)))⟩
    · have hd : decide ((n : Int) < 10) = false := decide_eq_false (by omega)
      have ih2 := ih (n / 10) (by omega) (by omega)
      rw [show ((n / 10 : Nat) : Int) = (n : Int) / 10 by simp] at ih2
      have IH := Lib.hid ih2
      have hsz := dec_len (n / 10)
      have hq := numS_size (n / 10)
      have hN := Lib.hid (show numS n = numS (n / 10) ++ ⟨#[48 + UInt8.ofNat (n % 10)]⟩ by unfold numS; rw [dec_big h, ← mk_append, UInt8.ofNat_add]; rfl)
      generalize numS (n / 10) = D at IH hN hq ih2
      have hs1 : D.size ≤ 1001 := by omega
      clear ih ih2 hsz hq
      go_enter Tryz.func37, Tryz.ntmps37
      go_wp2_with fail
      have hcv := conv1
      have hbd : ∀ x : Int, Blk (w.alloc (.cells #[.int .u8 x] 5)).drew w.heap.size 5 [.int .u8 x] := fun x => Blk.keep (blk_alloc w [.int .u8 x] 5) rfl
      have hcd := fun x : Int => convB _ _ x (hbd x)
      have hw10 : IntKind.i64.wrap ((n : Int) / 10) = (n : Int) / 10 := by rw [IntKind.wrap_i64]; omega
      have hwx : IntKind.u8.wrap (IntKind.i64.wrap (48 + (n : Int).tmod 10)) = ((48 + n % 10 : Nat) : Int) := by
        have h1 : (n : Int).tmod 10 = ((n % 10 : Nat) : Int) := by rw [Int.tmod_eq_emod_of_nonneg (by omega)]; simp
        have h2 : IntKind.i64.wrap (48 + (n : Int).tmod 10) = ((48 + n % 10 : Nat) : Int) := by rw [h1, IntKind.wrap_i64]; omega
        rw [h2]
        unfold IntKind.wrap
        simp only [show IntKind.u8.bits = 8 from rfl, show IntKind.u8.signed = false from rfl, Bool.false_and, Bool.false_eq_true, if_false]
        omega
      go_region_with (go_at_call 37; (try rw [hw10]); refine (IH.out _).mono ?_; rintro e w1 ⟨rfl, hb1⟩; (first | (have kk := (hbd (48 + (n : Int) % 10)).below (by with_reducible exact hb1); have hcw := convB w1 w.heap.size _ kk) | skip))
      all_goals (go_wp2_with fail)
      all_goals (go_ret)
      all_goals (exact ⟨by rw [hN.out]; rfl, by repeat (first | (with_reducible assumption) | (with_reducible exact Below.refl _ _) | (with_reducible apply below_alloc) | (with_reducible apply below_drewN) | (with_reducible apply Below.drew) | (with_reducible refine below_set ?_ (by dsimp only; omega) _) | (with_reducible refine below_trans ?_ (by assumption)))⟩)
end Go.Proofs.YtfblopmploohkaaGreatDoor

/- A line of a word and numbers; the names and fields of operations (own work). -/
set_option linter.unusedVariables false
set_option linter.unusedSimpArgs false
namespace Go.Proofs.YtfblopmploohkaaGreatDoor
open Go Go.RowKit Mk
def lineB (wd : ByteArray) : List Nat → ByteArray
  | [] => wd
  | n :: ns => lineB ((wd ++ ⟨#[32]⟩) ++ numS n) ns
theorem lineB_app (wd : ByteArray) : ∀ (xs : List Nat) (n : Nat), lineB wd (xs ++ [n]) = (lineB wd xs ++ ⟨#[32]⟩) ++ numS n
  | xs, n => by
    induction xs generalizing wd with
    | nil => rfl
    | cons x xs ih => exact ih _
set_option maxRecDepth 100000 in
set_option maxHeartbeats 2000000 in
theorem l16Line_c (wd : ByteArray) (ns : List Nat) (A : Option Addr) (c : Nat) (w : World) (h : RdS kInt w A c (ns.map (fun (n : Nat) => (n : Int)))) (hl : ns.length ≤ 3) (hn : ∀ n ∈ ns, n ≤ 1000) (hs : wd.size ≤ 100000) :
    Calls Tryz.prog 16 #[.string wd, .slice A ns.length c] w fun r w' => r = .returned (.string (lineB wd ns)) ∧ Below w.heap.size w w' := by
  go_enter Tryz.func16, Tryz.ntmps16
  go_wp2_with fail
  go_loopw [0, 5] (fun q i W => ∃ k : Nat, k ≤ ns.length ∧ i = .int .i64 k ∧ ∃ acc : ByteArray, q = .string acc ∧ acc = lineB wd (ns.take k) ∧ acc.size ≤ 100000 + 1010 * k ∧ Below w.heap.size w W) (fun _ i _ => ns.length - (intOf i).toNat)
  case atStart => exact ⟨0, Nat.zero_le _, rfl, wd, rfl, rfl, by omega, Below.refl _ _⟩
  case round =>
    obtain ⟨k, hk, rfl, acc, rfl, hacc, hsz, hb⟩ := hrel
    by_cases hlt : k < ns.length
    · have hlt' : (k : Int) < (ns.length : Int) := by omega
      have happ := lineB_app wd (ns.take k) ns[k]
      rw [← List.take_succ_eq_append_getElem hlt, ← hacc] at happ
      have hn1 := hn _ (List.getElem_mem hlt)
      obtain ⟨a, ea, hx⟩ := (h.below hb).at_ (k := k) (by rw [List.length_map]; exact hlt)
      subst ea
      simp only [show kInt.sz = 1 from rfl, Nat.mul_one, List.getElem_map] at hx
      obtain ⟨cs, hl1, hcs⟩ := hx
      obtain rfl := hcs
      have q0 := hl1.c0
      have hds := numS_size ns[k]
      have hdl := dec_len ns[k]
      have HD := Lib.hid (l6Digits_c ns[k] hn1)
      generalize ns[k] = n at q0 happ hn1 hds hdl HD
      generalize numS n = D at HD happ hds
      have HA := Lib.hid happ
      have hs1 : ¬ (9223372036854775807 : Nat) < acc.size + 1 := by omega
      have hs2 : ¬ (9223372036854775807 : Nat) < acc.size + 1 + D.size := by omega
      have hsz2 : (acc ++ ⟨#[32]⟩ ++ D).size ≤ 100000 + 1010 * (k + 1) := by
        rw [ByteArray.size_append, ByteArray.size_append, show (⟨#[32]⟩ : ByteArray).size = 1 from rfl]; omega
      clear happ hacc hl1 hds hdl hn h
      go_wp2_with fail
      refine (HD.out _).mono ?_
      rintro e w1 ⟨rfl, hb1⟩
      go_wp2_with fail
      exact ⟨⟨k + 1, hlt, by go_num, (acc ++ ⟨#[32]⟩) ++ D, rfl, HA.out.symm, hsz2, below_trans hb hb1⟩, by simp [intOf]; omega⟩
    · have hk' : k = ns.length := by omega
      subst hk'
      rw [List.take_length] at hacc
      have HA := Lib.hid hacc
      clear hacc
      go_wp2_with fail
      go_ret
      exact ⟨by rw [← HA.out]; rfl, hb⟩
theorem rdS_blkI {W : World} {g : Nat} {cs : List Value} {xs : List Int} (h : Blk W g 2 cs) (hx : cs = xs.map (Value.int .i64)) (hl : xs.length ≤ 1000) : RdS kInt W (some ⟨g, 0, none⟩) xs.length xs := by
  subst hx
  refine ownS_rdsT (ownS_blk (B := 0) h (flat_int.row ?_) (Nat.zero_le _) (by unfold maxLen; omega))
  clear h hl
  induction xs with
  | nil => rfl
  | cons x xs ih => exact ⟨[.int .i64 x], _, rfl, rfl, ih⟩
theorem blk_alloc1 (w : World) (ob : Obj) (l : List Value) (e : TypeId) : Blk ((w.alloc ob).alloc (.cells l.toArray e)) (w.heap.size + 1) e l := by
  have := blk_alloc (w.alloc ob) l e
  rwa [Deep.nblk_alloc] at this
/-- The names of the kinds. -/
def namesV : List Value := [.string ⟨#[]⟩, .string ⟨#[99, 114, 101, 97, 116, 101]⟩, .string ⟨#[119, 114, 105, 116, 101]⟩, .string ⟨#[100, 105, 115, 99, 97, 114, 100]⟩, .string ⟨#[114, 101, 97, 100]⟩, .string ⟨#[115, 110, 97, 112]⟩, .string ⟨#[100, 101, 108, 101, 116, 101]⟩]
theorem l16Names_c (w : World) : Calls Tryz.prog 17 #[] w fun r w' => r = .returned (.slice (some ⟨w.heap.size, 0, none⟩) 7 7) ∧ w' = w.alloc (.cells namesV.toArray 9) := by
  go_enter Tryz.func17, Tryz.ntmps17
  go_wp2_with fail
  go_ret
  exact ⟨rfl, rfl⟩
/-- The fields behind the volume. -/
def fieldsO (o : SOp) : List Int := if o.Kind = 1 then [o.Value] else if o.Kind = 2 then [o.At, o.Value] else if o.Kind = 3 then [o.At] else if o.Kind = 4 then [o.At] else if o.Kind = 5 then [o.Value] else []
/-- A row of numbers that is read. -/
def ReadInts (xs : List Int) (w : World) (r : Ending) (w' : World) : Prop := ∃ A c, r = .returned (.slice A xs.length c) ∧ RdS kInt w' A c xs ∧ Below w.heap.size w w'
set_option maxRecDepth 100000 in
set_option maxHeartbeats 2000000 in
theorem l16Fields_c (o : SOp) (w : World) (h1 : 1 ≤ o.Kind) (h6 : o.Kind ≤ 6) : Calls Tryz.prog 18 #[.agg #[.int .i64 o.Kind, .int .i64 o.Vol, .int .i64 o.At, .int .i64 o.Value]] w fun r w' => ReadInts (fieldsO o) w r w' := by
  obtain ⟨K, V, T, X⟩ := o
  dsimp only at h1 h6 ⊢
  have : K = 1 ∨ K = 2 ∨ K = 3 ∨ K = 4 ∨ K = 5 ∨ K = 6 := by omega
  clear h1 h6
  rcases this with rfl | rfl | rfl | rfl | rfl | rfl
  all_goals
    go_enter Tryz.func18, Tryz.ntmps18
    go_wp2_with fail
    go_ret
  · exact ⟨some ⟨_, 0, none⟩, 1, rfl, rdS_blkI (xs := [X]) (blk_alloc1 w _ [.int .i64 X] _) rfl (by simp), by repeat (first | (with_reducible assumption) | (with_reducible exact Below.refl _ _) | (with_reducible apply below_alloc) | (with_reducible apply below_drewN) | (with_reducible apply Below.drew) | (with_reducible refine below_set ?_ (by dsimp only; omega) _) | (with_reducible refine below_trans ?_ (by assumption)))⟩
  · exact ⟨some ⟨_, 0, none⟩, 2, rfl, rdS_blkI (xs := [T, X]) (blk_alloc1 w _ [.int .i64 T, .int .i64 X] _) rfl (by simp), by repeat (first | (with_reducible assumption) | (with_reducible exact Below.refl _ _) | (with_reducible apply below_alloc) | (with_reducible apply below_drewN) | (with_reducible apply Below.drew) | (with_reducible refine below_set ?_ (by dsimp only; omega) _) | (with_reducible refine below_trans ?_ (by assumption)))⟩
  · exact ⟨some ⟨_, 0, none⟩, 1, rfl, rdS_blkI (xs := [T]) (blk_alloc1 w _ [.int .i64 T] _) rfl (by simp), by repeat (first | (with_reducible assumption) | (with_reducible exact Below.refl _ _) | (with_reducible apply below_alloc) | (with_reducible apply below_drewN) | (with_reducible apply Below.drew) | (with_reducible refine below_set ?_ (by dsimp only; omega) _) | (with_reducible refine below_trans ?_ (by assumption)))⟩
  · exact ⟨some ⟨_, 0, none⟩, 1, rfl, rdS_blkI (xs := [T]) (blk_alloc1 w _ [.int .i64 T] _) rfl (by simp), by repeat (first | (with_reducible assumption) | (with_reducible exact Below.refl _ _) | (with_reducible apply below_alloc) | (with_reducible apply below_drewN) | (with_reducible apply Below.drew) | (with_reducible refine below_set ?_ (by dsimp only; omega) _) | (with_reducible refine below_trans ?_ (by assumption)))⟩
  · exact ⟨some ⟨_, 0, none⟩, 1, rfl, rdS_blkI (xs := [X]) (blk_alloc1 w _ [.int .i64 X] _) rfl (by simp), by repeat (first | (with_reducible assumption) | (with_reducible exact Below.refl _ _) | (with_reducible apply below_alloc) | (with_reducible apply below_drewN) | (with_reducible apply Below.drew) | (with_reducible refine below_set ?_ (by dsimp only; omega) _) | (with_reducible refine below_trans ?_ (by assumption)))⟩
  · exact ⟨none, 0, rfl, RdS.nil0, by repeat (first | (with_reducible assumption) | (with_reducible exact Below.refl _ _) | (with_reducible apply below_alloc) | (with_reducible apply below_drewN) | (with_reducible apply Below.drew) | (with_reducible refine below_set ?_ (by dsimp only; omega) _) | (with_reducible refine below_trans ?_ (by assumption)))⟩
end Go.Proofs.YtfblopmploohkaaGreatDoor

/- Faults of operations: what a faultless one is like (beside A1 and B1; own work). -/
set_option linter.unusedVariables false
set_option linter.unusedSimpArgs false
namespace Go.Proofs.YtfblopmploohkaaGreatDoor
open Go Go.RowKit Mk
theorem opF_zero {o : SOp} (h : opF o = 0) : (1 ≤ o.Kind ∧ o.Kind ≤ 6) ∧ (1 ≤ o.Vol ∧ o.Vol ≤ 99) ∧ (0 ≤ o.At ∧ o.At ≤ 15) ∧ (0 ≤ o.Value ∧ o.Value ≤ 255) := by
  obtain ⟨K, V, T, X⟩ := o
  dsimp only
  unfold opF at h
  dsimp only at h
  split at h
  · cases h
  rename_i h1
  have hK : 1 ≤ K ∧ K ≤ 6 := by simpa [wi] using h1
  have : K = 1 ∨ K = 2 ∨ K = 3 ∨ K = 4 ∨ K = 5 ∨ K = 6 := by omega
  rcases this with rfl | rfl | rfl | rfl | rfl | rfl <;> simp [wi] at h <;> omega
end Go.Proofs.YtfblopmploohkaaGreatDoor

/- The text of an operation: the reference's OpText (written by gU3.py, own work). -/
set_option linter.unusedVariables false
set_option linter.unusedSimpArgs false
namespace Go.Proofs.YtfblopmploohkaaGreatDoor
open Go Go.RowKit Mk
/-- The name of a kind. -/
def nameB (k : Int) : ByteArray := if k = 1 then ⟨#[99, 114, 101, 97, 116, 101]⟩ else if k = 2 then ⟨#[119, 114, 105, 116, 101]⟩ else if k = 3 then ⟨#[100, 105, 115, 99, 97, 114, 100]⟩ else if k = 4 then ⟨#[114, 101, 97, 100]⟩ else if k = 5 then ⟨#[115, 110, 97, 112]⟩ else ⟨#[100, 101, 108, 101, 116, 101]⟩
def textB (o : SOp) : ByteArray := lineB (lineB (nameB o.Kind) [o.Vol.toNat]) ((fieldsO o).map Int.toNat)
def opX (o : SOp) : Int × ByteArray := if opF o = 0 then (0, textB o) else (opF o, ⟨#[]⟩)
theorem name_at {k : Int} (h1 : 1 ≤ k) (h6 : k ≤ 6) : namesV[k.toNat]? = some (.string (nameB k)) := by
  have : k = 1 ∨ k = 2 ∨ k = 3 ∨ k = 4 ∨ k = 5 ∨ k = 6 := by omega
  rcases this with rfl | rfl | rfl | rfl | rfl | rfl <;> rfl
theorem cell_lt {w : World} {a : Addr} {v : Value} (h : w.cell? a = some v) : a.block < w.heap.size := by
  rcases Nat.lt_or_ge a.block w.heap.size with h' | h'
  · exact h'
  · simp [World.cell?, Array.getElem?_eq_none h'] at h
theorem cell_farN {b d : Nat} (hp : b ≠ d) (W : World) (o k : Nat) (v : Value) : (W.setCell ⟨b, o, none⟩ v).cell? ⟨d, k, none⟩ = W.cell? ⟨d, k, none⟩ := World.cell?_setCell_far _ _ _ _ hp
theorem nameB_size (k : Int) : (nameB k).size ≤ 7 := by
  unfold nameB
  repeat' split
  all_goals decide
theorem fields_map {o : SOp} (h : opF o = 0) : ((fieldsO o).map Int.toNat).map (fun (n : Nat) => (n : Int)) = fieldsO o := by
  obtain ⟨-, -, ⟨a1, a2⟩, ⟨b1, b2⟩⟩ := opF_zero h
  unfold fieldsO
  repeat' split
  all_goals (simp [Int.toNat_of_nonneg, a1, b1]; try omega)
theorem fields_le {o : SOp} (h : opF o = 0) : (∀ n ∈ (fieldsO o).map Int.toNat, n ≤ 1000) ∧ ((fieldsO o).map Int.toNat).length ≤ 3 := by
  obtain ⟨-, -, ⟨a1, a2⟩, ⟨b1, b2⟩⟩ := opF_zero h
  unfold fieldsO
  repeat' split
  all_goals simp
  all_goals omega
theorem line_size (wd : ByteArray) (ns : List Nat) (hn : ∀ n ∈ ns, n ≤ 1000) : (lineB wd ns).size ≤ wd.size + 1010 * ns.length := by
  induction ns generalizing wd with
  | nil => simp [lineB]
  | cons n ns ih =>
    have h := ih ((wd ++ ⟨#[32]⟩) ++ numS n) (fun m hm => hn m (List.mem_cons_of_mem _ hm))
    have h1 := hn n (List.mem_cons_self ..)
    have h2 := dec_len n
    rw [ByteArray.size_append, ByteArray.size_append, numS_size, show (⟨#[32]⟩ : ByteArray).size = 1 from rfl] at h
    simp only [lineB, List.length_cons]
    omega
set_option maxRecDepth 100000 in
set_option maxHeartbeats 4000000 in
theorem sOpText_bad (o : SOp) (w : World) (h : ¬ opF o = 0) :
    Calls Tryz.prog 7 #[.agg #[.int .i64 o.Kind, .int .i64 o.Vol, .int .i64 o.At, .int .i64 o.Value]] w fun r w' => r = .returned (.agg #[.int .i64 (opF o), .string ⟨#[]⟩]) ∧ Below w.heap.size w w' := by
  have he : ((opF o) != 0) = true := by simpa using h
  have HF := Lib.hid (fun W => opFaultS_c o W)
  generalize opF o = cd at HF he
  go_enter Tryz.func7, Tryz.ntmps7
  go_wp2_with fail
  refine (HF.out _).mono ?_
  rintro e w1 ⟨rfl, hb1⟩
  have zB := (blk_alloc1 w (.cells #[.int .i64 o.Kind, .int .i64 o.Vol, .int .i64 o.At, .int .i64 o.Value] 25) [.int .i64 0, .string ⟨#[]⟩] 28).below hb1
  have lz := zB.lt
  have r0 := zB.cell (j := 0) rfl
  have y0 := zB.frozen 0
  have r1 := zB.cell (j := 1) rfl
  have y1 := zB.frozen 1
  have bw : Below w.heap.size w w1 := by repeat (first | (with_reducible assumption) | (with_reducible exact Below.refl _ _) | (with_reducible apply below_alloc) | (with_reducible apply below_drewN) | (with_reducible apply Below.drew) | (with_reducible refine below_set ?_ (by dsimp only; omega) _) | (with_reducible refine below_trans ?_ (by assumption)))
  clear zB hb1
  go_wp2_with fail
  exact bodyPost_ret (v := .agg #[.int .i64 cd, .string ⟨#[]⟩]) (by simp [results, Tryz.results7, go_sem, r0, r1]) rfl ⟨rfl, by repeat (first | (with_reducible assumption) | (with_reducible exact Below.refl _ _) | (with_reducible apply below_alloc) | (with_reducible apply below_drewN) | (with_reducible apply Below.drew) | (with_reducible refine below_set ?_ (by dsimp only; omega) _) | (with_reducible refine below_trans ?_ (by assumption)))⟩
set_option maxRecDepth 100000 in
set_option maxHeartbeats 4000000 in
theorem sOpText_good (o : SOp) (w : World) (h : opF o = 0) :
    Calls Tryz.prog 7 #[.agg #[.int .i64 o.Kind, .int .i64 o.Vol, .int .i64 o.At, .int .i64 o.Value]] w fun r w' => r = .returned (.agg #[.int .i64 0, .string (textB o)]) ∧ Below w.heap.size w w' := by
  obtain ⟨⟨k1, k6⟩, ⟨v1, v9⟩, -, -⟩ := opF_zero h
  have hfm := fields_map h
  obtain ⟨hfl, hf3⟩ := fields_le h
  obtain ⟨V, hV⟩ := Int.eq_ofNat_of_zero_le (show 0 ≤ o.Vol by omega)
  obtain ⟨K, hK⟩ := Int.eq_ofNat_of_zero_le (show 0 ≤ o.Kind by omega)
  have hna := name_at k1 k6
  have hns := nameB_size o.Kind
  have HF := Lib.hid (fun W => opFaultS_c o W)
  rw [h] at HF
  have HQ := Lib.hid (fun W => l16Fields_c o W k1 k6)
  have hls := line_size (nameB o.Kind) [V] (by simp; omega)
  have hl1 : ∀ (A : Option Addr) (c : Nat) (W : World), RdS kInt W A c [(V : Int)] → Calls Tryz.prog 16 #[.string (nameB o.Kind), .slice A 1 c] W fun r w' => r = .returned (.string (lineB (nameB o.Kind) [V])) ∧ Below W.heap.size W w' := fun A c W hh => l16Line_c (nameB o.Kind) [V] A c W hh (by simp) (by simp; omega) (by omega)
  have H1 := Lib.hid hl1
  have hlen : ((fieldsO o).map Int.toNat).length = (fieldsO o).length := by simp
  have hl2 : ∀ (A : Option Addr) (c : Nat) (W : World), RdS kInt W A c (fieldsO o) → Calls Tryz.prog 16 #[.string (lineB (nameB o.Kind) [V]), .slice A (fieldsO o).length c] W fun r w' => r = .returned (.string (lineB (lineB (nameB o.Kind) [V]) ((fieldsO o).map Int.toNat))) ∧ Below W.heap.size W w' := fun A c W hh => by
    rw [← hlen]
    exact l16Line_c (lineB (nameB o.Kind) [V]) ((fieldsO o).map Int.toNat) A c W (by rw [hfm]; exact hh) hf3 hfl (by simp only [List.length_singleton] at hls; omega)
  have H2 := Lib.hid hl2
  have HT := Lib.hid (show textB o = lineB (lineB (nameB o.Kind) [V]) ((fieldsO o).map Int.toNat) by unfold textB; rw [hV]; rfl)
  clear hl1 hl2 hlen
  rw [show o.Kind.toNat = K by omega] at hna
  rw [hV] at HF HQ
  rw [hK] at HF HQ
  rw [hV, hK]
  have hK7 : (K : Int) < 7 := by omega
  have hK0 : K < 7 := by omega
  generalize (fieldsO o).map Int.toNat = fs at HT H2 hfm hfl hf3
  generalize lineB (nameB o.Kind) [V] = ln at HT H2 H1 hls
  generalize nameB o.Kind = nm at H1 hls hna hns
  generalize lineB ln fs = tx at HT H2
  generalize fieldsO o = fo at HQ H2 hfm
  generalize o.At = T at HF HQ
  generalize o.Value = X at HF HQ
  clear hfm hfl hf3 hls hns v1 v9 k1 k6 hV hK h
  go_enter Tryz.func7, Tryz.ntmps7
  go_wp2_with fail
  refine (HF.out _).mono ?_
  rintro e w1 ⟨rfl, hb1⟩
  have xB := (blk_alloc w [.int .i64 K, .int .i64 V, .int .i64 T, .int .i64 X] 25).below (below_trans (below_alloc (Below.refl _ _) (.cells #[.int .i64 0, .string ⟨#[]⟩] 28)) hb1)
  have zB := (blk_alloc1 w (.cells #[.int .i64 K, .int .i64 V, .int .i64 T, .int .i64 X] 25) [.int .i64 0, .string ⟨#[]⟩] 28).below hb1
  have bw1 : Below w.heap.size w w1 := by repeat (first | (with_reducible assumption) | (with_reducible exact Below.refl _ _) | (with_reducible apply below_alloc) | (with_reducible apply below_drewN) | (with_reducible apply Below.drew) | (with_reducible refine below_set ?_ (by dsimp only; omega) _) | (with_reducible refine below_trans ?_ (by assumption)))
  clear hb1 HF
  have lz := zB.lt
  have x0 := xB.cell (j := 0) rfl
  have x1 := xB.cell (j := 1) rfl
  have x2 := xB.cell (j := 2) rfl
  have x3 := xB.cell (j := 3) rfl
  have y0 := zB.frozen 0
  have r0 := zB.cell (j := 0) rfl
  have r1 := zB.cell (j := 1) rfl
  have y1 := zB.frozen 1
  have hnm : ∀ W : World, Calls Tryz.prog 17 #[] W fun r w' => ∃ g, r = .returned (.slice (some ⟨g, 0, none⟩) 7 7) ∧ w'.cell? ⟨g, K, none⟩ = some (.string nm) ∧ Below W.heap.size W w' := fun W => (l16Names_c W).mono fun e w' ⟨he, hw⟩ => ⟨W.heap.size, he, by rw [hw]; exact (blk_alloc W namesV 9).cell hna, by rw [hw]; exact below_alloc (Below.refl _ _) _⟩
  have HN := Lib.hid hnm
  have hvd : ∀ x : Value, Blk (w1.alloc (.cells #[x] 2)).drew w1.heap.size 2 [x] := fun x => Blk.keep (blk_alloc w1 [x] 2) rfl
  clear hnm hna hK0
  have hp : w.heap.size + 1 ≠ w.heap.size := by omega
  go_upto_region 4 with fail
  refine wp_region_held_drew (S := (fun W => W.cell? ⟨w.heap.size, 0, none⟩ = some (.int .i64 (K : Int)) ∧ W.cell? ⟨w.heap.size, 1, none⟩ = some (.int .i64 (V : Int)) ∧ W.cell? ⟨w.heap.size, 2, none⟩ = some (.int .i64 T) ∧ W.cell? ⟨w.heap.size, 3, none⟩ = some (.int .i64 X))) (by kernel_rfl) ?_ (fun hHeld => ?_)
  · (try dsimp only); (first | (with_reducible exact ⟨x0, x1, x2, x3⟩) | (simp only [cell_farN hp, g0, g1, g2, g3, and_self]; done) | (refine ⟨cell_below (show Below w1.heap.size w1 _ from ?_) x0, cell_below (show Below w1.heap.size w1 _ from ?_) x1, cell_below (show Below w1.heap.size w1 _ from ?_) x2, cell_below (show Below w1.heap.size w1 _ from ?_) x3⟩ <;> ((repeat (first | (with_reducible assumption) | (with_reducible exact Below.refl _ _) | (with_reducible apply below_alloc) | (with_reducible apply below_drewN) | (with_reducible apply Below.drew) | (with_reducible refine below_set ?_ (by dsimp only; omega) _) | (with_reducible refine below_trans ?_ (by assumption)))); done)) | go_keep)
  refine wpAnyH_take (i := 1) (oi := _) (v := ?_) rfl (by kernel_rfl) (by kernel_rfl) (by kernel_rfl) (fun _ _ _ h => h) (Or.inl ⟨by rfl, ?hy⟩) (by assumption) ?_
  case hy => ((intro w hSw; (try dsimp only at hSw); go_simp); (try with_reducible rfl))
  try simp only [Act.put, List.setIfInBounds_toArray, List.set_cons_zero, List.set_cons_succ]
  refine wpAnyH_take (i := 2) (oi := _) (v := ?_) rfl (by kernel_rfl) (by kernel_rfl) (by kernel_rfl) (fun _ _ _ h => h) (Or.inl ⟨by rfl, ?hy⟩) (by assumption) ?_
  case hy => ((intro w hSw; (try dsimp only at hSw); go_simp); (try with_reducible rfl))
  try simp only [Act.put, List.setIfInBounds_toArray, List.set_cons_zero, List.set_cons_succ]
  refine wpAnyH_take (i := 5) (oi := _) (v := ?_) rfl (by kernel_rfl) (by kernel_rfl) (by kernel_rfl) (fun _ _ _ h => h) (Or.inl ⟨by rfl, ?hy⟩) (by assumption) ?_
  case hy => ((intro w hSw; (try dsimp only at hSw); go_simp); (try with_reducible rfl))
  try simp only [Act.put, List.setIfInBounds_toArray, List.set_cons_zero, List.set_cons_succ]
  refine wpAnyH_take (i := 6) (oi := _) (v := ?_) rfl (by kernel_rfl) (by kernel_rfl) (by kernel_rfl) (fun _ _ _ h => h) (Or.inl ⟨by rfl, ?hy⟩) (by assumption) ?_
  case hy => ((intro w hSw; (try dsimp only at hSw); go_simp); (try with_reducible rfl))
  try simp only [Act.put, List.setIfInBounds_toArray, List.set_cons_zero, List.set_cons_succ]
  refine wpAnyH_take (i := 9) (oi := _) (v := ?_) rfl (by kernel_rfl) (by kernel_rfl) (by kernel_rfl) (fun _ _ _ h => h) (Or.inl ⟨by rfl, ?hy⟩) (by assumption) ?_
  case hy => ((intro w hSw; (try dsimp only at hSw); go_simp); (try with_reducible rfl))
  try simp only [Act.put, List.setIfInBounds_toArray, List.set_cons_zero, List.set_cons_succ]
  refine wpAnyH_ready (rs := [0, 7]) (by kernel_rfl) (by simp) ?_
  refine AllReadyH.cons rfl (fun K hK => ?_) ?_
  · go_simp
    go_wp2_with (first | (go_at_call 17; refine (HN.out _).mono ?_; rintro e wn ⟨gn, rfl, nC, hbn⟩; have ng : gn < wn.heap.size := cell_lt nC; (first | (have vB := (hvd _).below (by with_reducible exact hbn)) | (have vB := vB.below hbn) | skip); have zW := zB.below (show Below w1.heap.size w1 wn by repeat (first | (with_reducible assumption) | (with_reducible exact Below.refl _ _) | (with_reducible apply below_alloc) | (with_reducible apply below_drewN) | (with_reducible apply Below.drew) | (with_reducible refine below_set ?_ (by dsimp only; omega) _) | (with_reducible refine below_trans ?_ (by assumption)))); have r0 := zW.cell (j := 0) rfl; have y0 := zW.frozen 0; have r1 := zW.cell (j := 1) rfl; have y1 := zW.frozen 1; have zl := zW.lt) | (go_at_call 16; (first | (with_reducible refine (H1.out _ _ _ ?_).mono ?_) | (with_reducible refine (H2.out _ _ _ ?_).mono ?_)); (first | exact fR | exact rdS_blkI (xs := [(V : Int)]) vB rfl (by simp) | exact rdS_blkI (xs := [(V : Int)]) (blk_alloc wn _ _) rfl (by simp)); rintro e wl ⟨rfl, hbl⟩; have g0 := cell_below (show Below w1.heap.size w1 wl by repeat (first | (with_reducible assumption) | (with_reducible exact Below.refl _ _) | (with_reducible apply below_alloc) | (with_reducible apply below_drewN) | (with_reducible apply Below.drew) | (with_reducible refine below_set ?_ (by dsimp only; omega) _) | (with_reducible refine below_trans ?_ (by assumption)))) x0; have g1 := cell_below (show Below w1.heap.size w1 wl by repeat (first | (with_reducible assumption) | (with_reducible exact Below.refl _ _) | (with_reducible apply below_alloc) | (with_reducible apply below_drewN) | (with_reducible apply Below.drew) | (with_reducible refine below_set ?_ (by dsimp only; omega) _) | (with_reducible refine below_trans ?_ (by assumption)))) x1; have g2 := cell_below (show Below w1.heap.size w1 wl by repeat (first | (with_reducible assumption) | (with_reducible exact Below.refl _ _) | (with_reducible apply below_alloc) | (with_reducible apply below_drewN) | (with_reducible apply Below.drew) | (with_reducible refine below_set ?_ (by dsimp only; omega) _) | (with_reducible refine below_trans ?_ (by assumption)))) x2; have g3 := cell_below (show Below w1.heap.size w1 wl by repeat (first | (with_reducible assumption) | (with_reducible exact Below.refl _ _) | (with_reducible apply below_alloc) | (with_reducible apply below_drewN) | (with_reducible apply Below.drew) | (with_reducible refine below_set ?_ (by dsimp only; omega) _) | (with_reducible refine below_trans ?_ (by assumption)))) x3; (first | (have nC := cell_below hbl nC; have ng : gn < wl.heap.size := cell_lt nC) | skip); have zW := zB.below (show Below w1.heap.size w1 wl by repeat (first | (with_reducible assumption) | (with_reducible exact Below.refl _ _) | (with_reducible apply below_alloc) | (with_reducible apply below_drewN) | (with_reducible apply Below.drew) | (with_reducible refine below_set ?_ (by dsimp only; omega) _) | (with_reducible refine below_trans ?_ (by assumption)))); have r0 := zW.cell (j := 0) rfl; have y0 := zW.frozen 0; have r1 := zW.cell (j := 1) rfl; have y1 := zW.frozen 1; have zl := zW.lt) | (go_at_call 18; refine (HQ.out _).mono ?_; rintro e wf ⟨FA, fc, rfl, fR, hbf⟩; (first | (have vB := (hvd _).below (by with_reducible exact hbf)) | (have vB := vB.below hbf) | skip); (first | (have nC := cell_below hbf nC; have ng : gn < wf.heap.size := cell_lt nC) | skip); have zW := zB.below (show Below w1.heap.size w1 wf by repeat (first | (with_reducible assumption) | (with_reducible exact Below.refl _ _) | (with_reducible apply below_alloc) | (with_reducible apply below_drewN) | (with_reducible apply Below.drew) | (with_reducible refine below_set ?_ (by dsimp only; omega) _) | (with_reducible refine below_trans ?_ (by assumption)))); have r0 := zW.cell (j := 0) rfl; have y0 := zW.frozen 0; have r1 := zW.cell (j := 1) rfl; have y1 := zW.frozen 1; have zl := zW.lt))
    refine hK.out _ _ ?_ (fun hHeld => ?_)
    · (try dsimp only); (first | (with_reducible exact ⟨x0, x1, x2, x3⟩) | (simp only [cell_farN hp, g0, g1, g2, g3, and_self]; done) | (refine ⟨cell_below (show Below w1.heap.size w1 _ from ?_) x0, cell_below (show Below w1.heap.size w1 _ from ?_) x1, cell_below (show Below w1.heap.size w1 _ from ?_) x2, cell_below (show Below w1.heap.size w1 _ from ?_) x3⟩ <;> ((repeat (first | (with_reducible assumption) | (with_reducible exact Below.refl _ _) | (with_reducible apply below_alloc) | (with_reducible apply below_drewN) | (with_reducible apply Below.drew) | (with_reducible refine below_set ?_ (by dsimp only; omega) _) | (with_reducible refine below_trans ?_ (by assumption)))); done)) | go_keep)
    clear hK K
    refine wpAnyH_take (i := 3) (oi := _) (v := ?_) rfl (by kernel_rfl) (by kernel_rfl) (by kernel_rfl) (fun _ _ _ h => h) (Or.inl ⟨by rfl, ?hy⟩) (by assumption) ?_
    case hy => ((intro w hSw; (try dsimp only at hSw); go_simp); (try with_reducible rfl))
    try simp only [Act.put, List.setIfInBounds_toArray, List.set_cons_zero, List.set_cons_succ]
    refine wpAnyH_ready (rs := [4, 7]) (by kernel_rfl) (by simp) ?_
    refine AllReadyH.cons rfl (fun K hK => ?_) ?_
    · go_simp
      refine hK.out _ _ ?_ (fun hHeld => ?_)
      · (try dsimp only); (first | (with_reducible exact ⟨x0, x1, x2, x3⟩) | (simp only [cell_farN hp, g0, g1, g2, g3, and_self]; done) | (refine ⟨cell_below (show Below w1.heap.size w1 _ from ?_) x0, cell_below (show Below w1.heap.size w1 _ from ?_) x1, cell_below (show Below w1.heap.size w1 _ from ?_) x2, cell_below (show Below w1.heap.size w1 _ from ?_) x3⟩ <;> ((repeat (first | (with_reducible assumption) | (with_reducible exact Below.refl _ _) | (with_reducible apply below_alloc) | (with_reducible apply below_drewN) | (with_reducible apply Below.drew) | (with_reducible refine below_set ?_ (by dsimp only; omega) _) | (with_reducible refine below_trans ?_ (by assumption)))); done)) | go_keep)
      clear hK K
      refine wpAnyH_ready (rs := [7]) (by kernel_rfl) (by simp) ?_
      refine AllReadyH.cons rfl (fun K hK => ?_) ?_
      · go_simp
        refine hK.out _ _ ?_ (fun hHeld => ?_)
        · (try dsimp only); (first | (with_reducible exact ⟨x0, x1, x2, x3⟩) | (simp only [cell_farN hp, g0, g1, g2, g3, and_self]; done) | (refine ⟨cell_below (show Below w1.heap.size w1 _ from ?_) x0, cell_below (show Below w1.heap.size w1 _ from ?_) x1, cell_below (show Below w1.heap.size w1 _ from ?_) x2, cell_below (show Below w1.heap.size w1 _ from ?_) x3⟩ <;> ((repeat (first | (with_reducible assumption) | (with_reducible exact Below.refl _ _) | (with_reducible apply below_alloc) | (with_reducible apply below_drewN) | (with_reducible apply Below.drew) | (with_reducible refine below_set ?_ (by dsimp only; omega) _) | (with_reducible refine below_trans ?_ (by assumption)))); done)) | go_keep)
        clear hK K
        refine wpAnyH_ready (rs := [8]) (by kernel_rfl) (by simp) ?_
        refine AllReadyH.cons rfl (fun K hK => ?_) ?_
        · go_simp
          go_wp2_with (first | (go_at_call 17; refine (HN.out _).mono ?_; rintro e wn ⟨gn, rfl, nC, hbn⟩; have ng : gn < wn.heap.size := cell_lt nC; (first | (have vB := (hvd _).below (by with_reducible exact hbn)) | (have vB := vB.below hbn) | skip); have zW := zB.below (show Below w1.heap.size w1 wn by repeat (first | (with_reducible assumption) | (with_reducible exact Below.refl _ _) | (with_reducible apply below_alloc) | (with_reducible apply below_drewN) | (with_reducible apply Below.drew) | (with_reducible refine below_set ?_ (by dsimp only; omega) _) | (with_reducible refine below_trans ?_ (by assumption)))); have r0 := zW.cell (j := 0) rfl; have y0 := zW.frozen 0; have r1 := zW.cell (j := 1) rfl; have y1 := zW.frozen 1; have zl := zW.lt) | (go_at_call 16; (first | (with_reducible refine (H1.out _ _ _ ?_).mono ?_) | (with_reducible refine (H2.out _ _ _ ?_).mono ?_)); (first | exact fR | exact rdS_blkI (xs := [(V : Int)]) vB rfl (by simp) | exact rdS_blkI (xs := [(V : Int)]) (blk_alloc wn _ _) rfl (by simp)); rintro e wl ⟨rfl, hbl⟩; have g0 := cell_below (show Below w1.heap.size w1 wl by repeat (first | (with_reducible assumption) | (with_reducible exact Below.refl _ _) | (with_reducible apply below_alloc) | (with_reducible apply below_drewN) | (with_reducible apply Below.drew) | (with_reducible refine below_set ?_ (by dsimp only; omega) _) | (with_reducible refine below_trans ?_ (by assumption)))) x0; have g1 := cell_below (show Below w1.heap.size w1 wl by repeat (first | (with_reducible assumption) | (with_reducible exact Below.refl _ _) | (with_reducible apply below_alloc) | (with_reducible apply below_drewN) | (with_reducible apply Below.drew) | (with_reducible refine below_set ?_ (by dsimp only; omega) _) | (with_reducible refine below_trans ?_ (by assumption)))) x1; have g2 := cell_below (show Below w1.heap.size w1 wl by repeat (first | (with_reducible assumption) | (with_reducible exact Below.refl _ _) | (with_reducible apply below_alloc) | (with_reducible apply below_drewN) | (with_reducible apply Below.drew) | (with_reducible refine below_set ?_ (by dsimp only; omega) _) | (with_reducible refine below_trans ?_ (by assumption)))) x2; have g3 := cell_below (show Below w1.heap.size w1 wl by repeat (first | (with_reducible assumption) | (with_reducible exact Below.refl _ _) | (with_reducible apply below_alloc) | (with_reducible apply below_drewN) | (with_reducible apply Below.drew) | (with_reducible refine below_set ?_ (by dsimp only; omega) _) | (with_reducible refine below_trans ?_ (by assumption)))) x3; (first | (have nC := cell_below hbl nC; have ng : gn < wl.heap.size := cell_lt nC) | skip); have zW := zB.below (show Below w1.heap.size w1 wl by repeat (first | (with_reducible assumption) | (with_reducible exact Below.refl _ _) | (with_reducible apply below_alloc) | (with_reducible apply below_drewN) | (with_reducible apply Below.drew) | (with_reducible refine below_set ?_ (by dsimp only; omega) _) | (with_reducible refine below_trans ?_ (by assumption)))); have r0 := zW.cell (j := 0) rfl; have y0 := zW.frozen 0; have r1 := zW.cell (j := 1) rfl; have y1 := zW.frozen 1; have zl := zW.lt) | (go_at_call 18; refine (HQ.out _).mono ?_; rintro e wf ⟨FA, fc, rfl, fR, hbf⟩; (first | (have vB := (hvd _).below (by with_reducible exact hbf)) | (have vB := vB.below hbf) | skip); (first | (have nC := cell_below hbf nC; have ng : gn < wf.heap.size := cell_lt nC) | skip); have zW := zB.below (show Below w1.heap.size w1 wf by repeat (first | (with_reducible assumption) | (with_reducible exact Below.refl _ _) | (with_reducible apply below_alloc) | (with_reducible apply below_drewN) | (with_reducible apply Below.drew) | (with_reducible refine below_set ?_ (by dsimp only; omega) _) | (with_reducible refine below_trans ?_ (by assumption)))); have r0 := zW.cell (j := 0) rfl; have y0 := zW.frozen 0; have r1 := zW.cell (j := 1) rfl; have y1 := zW.frozen 1; have zl := zW.lt))
          refine hK.out _ _ ?_ (fun hHeld => ?_)
          · (try dsimp only); (first | (with_reducible exact ⟨x0, x1, x2, x3⟩) | (simp only [cell_farN hp, g0, g1, g2, g3, and_self]; done) | (refine ⟨cell_below (show Below w1.heap.size w1 _ from ?_) x0, cell_below (show Below w1.heap.size w1 _ from ?_) x1, cell_below (show Below w1.heap.size w1 _ from ?_) x2, cell_below (show Below w1.heap.size w1 _ from ?_) x3⟩ <;> ((repeat (first | (with_reducible assumption) | (with_reducible exact Below.refl _ _) | (with_reducible apply below_alloc) | (with_reducible apply below_drewN) | (with_reducible apply Below.drew) | (with_reducible refine below_set ?_ (by dsimp only; omega) _) | (with_reducible refine below_trans ?_ (by assumption)))); done)) | go_keep)
          clear hK K
          refine wpAnyH_ready (rs := [10]) (by kernel_rfl) (by simp) ?_
          refine AllReadyH.cons rfl (fun K hK => ?_) ?_
          · go_simp
            go_wp2_with (first | (go_at_call 17; refine (HN.out _).mono ?_; rintro e wn ⟨gn, rfl, nC, hbn⟩; have ng : gn < wn.heap.size := cell_lt nC; (first | (have vB := (hvd _).below (by with_reducible exact hbn)) | (have vB := vB.below hbn) | skip); have zW := zB.below (show Below w1.heap.size w1 wn by repeat (first | (with_reducible assumption) | (with_reducible exact Below.refl _ _) | (with_reducible apply below_alloc) | (with_reducible apply below_drewN) | (with_reducible apply Below.drew) | (with_reducible refine below_set ?_ (by dsimp only; omega) _) | (with_reducible refine below_trans ?_ (by assumption)))); have r0 := zW.cell (j := 0) rfl; have y0 := zW.frozen 0; have r1 := zW.cell (j := 1) rfl; have y1 := zW.frozen 1; have zl := zW.lt) | (go_at_call 16; (first | (with_reducible refine (H1.out _ _ _ ?_).mono ?_) | (with_reducible refine (H2.out _ _ _ ?_).mono ?_)); (first | exact fR | exact rdS_blkI (xs := [(V : Int)]) vB rfl (by simp) | exact rdS_blkI (xs := [(V : Int)]) (blk_alloc wn _ _) rfl (by simp)); rintro e wl ⟨rfl, hbl⟩; have g0 := cell_below (show Below w1.heap.size w1 wl by repeat (first | (with_reducible assumption) | (with_reducible exact Below.refl _ _) | (with_reducible apply below_alloc) | (with_reducible apply below_drewN) | (with_reducible apply Below.drew) | (with_reducible refine below_set ?_ (by dsimp only; omega) _) | (with_reducible refine below_trans ?_ (by assumption)))) x0; have g1 := cell_below (show Below w1.heap.size w1 wl by repeat (first | (with_reducible assumption) | (with_reducible exact Below.refl _ _) | (with_reducible apply below_alloc) | (with_reducible apply below_drewN) | (with_reducible apply Below.drew) | (with_reducible refine below_set ?_ (by dsimp only; omega) _) | (with_reducible refine below_trans ?_ (by assumption)))) x1; have g2 := cell_below (show Below w1.heap.size w1 wl by repeat (first | (with_reducible assumption) | (with_reducible exact Below.refl _ _) | (with_reducible apply below_alloc) | (with_reducible apply below_drewN) | (with_reducible apply Below.drew) | (with_reducible refine below_set ?_ (by dsimp only; omega) _) | (with_reducible refine below_trans ?_ (by assumption)))) x2; have g3 := cell_below (show Below w1.heap.size w1 wl by repeat (first | (with_reducible assumption) | (with_reducible exact Below.refl _ _) | (with_reducible apply below_alloc) | (with_reducible apply below_drewN) | (with_reducible apply Below.drew) | (with_reducible refine below_set ?_ (by dsimp only; omega) _) | (with_reducible refine below_trans ?_ (by assumption)))) x3; (first | (have nC := cell_below hbl nC; have ng : gn < wl.heap.size := cell_lt nC) | skip); have zW := zB.below (show Below w1.heap.size w1 wl by repeat (first | (with_reducible assumption) | (with_reducible exact Below.refl _ _) | (with_reducible apply below_alloc) | (with_reducible apply below_drewN) | (with_reducible apply Below.drew) | (with_reducible refine below_set ?_ (by dsimp only; omega) _) | (with_reducible refine below_trans ?_ (by assumption)))); have r0 := zW.cell (j := 0) rfl; have y0 := zW.frozen 0; have r1 := zW.cell (j := 1) rfl; have y1 := zW.frozen 1; have zl := zW.lt) | (go_at_call 18; refine (HQ.out _).mono ?_; rintro e wf ⟨FA, fc, rfl, fR, hbf⟩; (first | (have vB := (hvd _).below (by with_reducible exact hbf)) | (have vB := vB.below hbf) | skip); (first | (have nC := cell_below hbf nC; have ng : gn < wf.heap.size := cell_lt nC) | skip); have zW := zB.below (show Below w1.heap.size w1 wf by repeat (first | (with_reducible assumption) | (with_reducible exact Below.refl _ _) | (with_reducible apply below_alloc) | (with_reducible apply below_drewN) | (with_reducible apply Below.drew) | (with_reducible refine below_set ?_ (by dsimp only; omega) _) | (with_reducible refine below_trans ?_ (by assumption)))); have r0 := zW.cell (j := 0) rfl; have y0 := zW.frozen 0; have r1 := zW.cell (j := 1) rfl; have y1 := zW.frozen 1; have zl := zW.lt))
            refine hK.out _ _ ?_ (fun hHeld => ?_)
            · (try dsimp only); (first | (with_reducible exact ⟨x0, x1, x2, x3⟩) | (simp only [cell_farN hp, g0, g1, g2, g3, and_self]; done) | (refine ⟨cell_below (show Below w1.heap.size w1 _ from ?_) x0, cell_below (show Below w1.heap.size w1 _ from ?_) x1, cell_below (show Below w1.heap.size w1 _ from ?_) x2, cell_below (show Below w1.heap.size w1 _ from ?_) x3⟩ <;> ((repeat (first | (with_reducible assumption) | (with_reducible exact Below.refl _ _) | (with_reducible apply below_alloc) | (with_reducible apply below_drewN) | (with_reducible apply Below.drew) | (with_reducible refine below_set ?_ (by dsimp only; omega) _) | (with_reducible refine below_trans ?_ (by assumption)))); done)) | go_keep)
            clear hK K
            refine wpAnyH_ready (rs := [11]) (by kernel_rfl) (by simp) ?_
            refine AllReadyH.cons rfl (fun K hK => ?_) ?_
            · go_simp
              go_wp2_with (first | (go_at_call 17; refine (HN.out _).mono ?_; rintro e wn ⟨gn, rfl, nC, hbn⟩; have ng : gn < wn.heap.size := cell_lt nC; (first | (have vB := (hvd _).below (by with_reducible exact hbn)) | (have vB := vB.below hbn) | skip); have zW := zB.below (show Below w1.heap.size w1 wn by repeat (first | (with_reducible assumption) | (with_reducible exact Below.refl _ _) | (with_reducible apply below_alloc) | (with_reducible apply below_drewN) | (with_reducible apply Below.drew) | (with_reducible refine below_set ?_ (by dsimp only; omega) _) | (with_reducible refine below_trans ?_ (by assumption)))); have r0 := zW.cell (j := 0) rfl; have y0 := zW.frozen 0; have r1 := zW.cell (j := 1) rfl; have y1 := zW.frozen 1; have zl := zW.lt) | (go_at_call 16; (first | (with_reducible refine (H1.out _ _ _ ?_).mono ?_) | (with_reducible refine (H2.out _ _ _ ?_).mono ?_)); (first | exact fR | exact rdS_blkI (xs := [(V : Int)]) vB rfl (by simp) | exact rdS_blkI (xs := [(V : Int)]) (blk_alloc wn _ _) rfl (by simp)); rintro e wl ⟨rfl, hbl⟩; have g0 := cell_below (show Below w1.heap.size w1 wl by repeat (first | (with_reducible assumption) | (with_reducible exact Below.refl _ _) | (with_reducible apply below_alloc) | (with_reducible apply below_drewN) | (with_reducible apply Below.drew) | (with_reducible refine below_set ?_ (by dsimp only; omega) _) | (with_reducible refine below_trans ?_ (by assumption)))) x0; have g1 := cell_below (show Below w1.heap.size w1 wl by repeat (first | (with_reducible assumption) | (with_reducible exact Below.refl _ _) | (with_reducible apply below_alloc) | (with_reducible apply below_drewN) | (with_reducible apply Below.drew) | (with_reducible refine below_set ?_ (by dsimp only; omega) _) | (with_reducible refine below_trans ?_ (by assumption)))) x1; have g2 := cell_below (show Below w1.heap.size w1 wl by repeat (first | (with_reducible assumption) | (with_reducible exact Below.refl _ _) | (with_reducible apply below_alloc) | (with_reducible apply below_drewN) | (with_reducible apply Below.drew) | (with_reducible refine below_set ?_ (by dsimp only; omega) _) | (with_reducible refine below_trans ?_ (by assumption)))) x2; have g3 := cell_below (show Below w1.heap.size w1 wl by repeat (first | (with_reducible assumption) | (with_reducible exact Below.refl _ _) | (with_reducible apply below_alloc) | (with_reducible apply below_drewN) | (with_reducible apply Below.drew) | (with_reducible refine below_set ?_ (by dsimp only; omega) _) | (with_reducible refine below_trans ?_ (by assumption)))) x3; (first | (have nC := cell_below hbl nC; have ng : gn < wl.heap.size := cell_lt nC) | skip); have zW := zB.below (show Below w1.heap.size w1 wl by repeat (first | (with_reducible assumption) | (with_reducible exact Below.refl _ _) | (with_reducible apply below_alloc) | (with_reducible apply below_drewN) | (with_reducible apply Below.drew) | (with_reducible refine below_set ?_ (by dsimp only; omega) _) | (with_reducible refine below_trans ?_ (by assumption)))); have r0 := zW.cell (j := 0) rfl; have y0 := zW.frozen 0; have r1 := zW.cell (j := 1) rfl; have y1 := zW.frozen 1; have zl := zW.lt) | (go_at_call 18; refine (HQ.out _).mono ?_; rintro e wf ⟨FA, fc, rfl, fR, hbf⟩; (first | (have vB := (hvd _).below (by with_reducible exact hbf)) | (have vB := vB.below hbf) | skip); (first | (have nC := cell_below hbf nC; have ng : gn < wf.heap.size := cell_lt nC) | skip); have zW := zB.below (show Below w1.heap.size w1 wf by repeat (first | (with_reducible assumption) | (with_reducible exact Below.refl _ _) | (with_reducible apply below_alloc) | (with_reducible apply below_drewN) | (with_reducible apply Below.drew) | (with_reducible refine below_set ?_ (by dsimp only; omega) _) | (with_reducible refine below_trans ?_ (by assumption)))); have r0 := zW.cell (j := 0) rfl; have y0 := zW.frozen 0; have r1 := zW.cell (j := 1) rfl; have y1 := zW.frozen 1; have zl := zW.lt))
              refine hK.out _ _ ?_ (fun hHeld => ?_)
              · (try dsimp only); (first | (with_reducible exact ⟨x0, x1, x2, x3⟩) | (simp only [cell_farN hp, g0, g1, g2, g3, and_self]; done) | (refine ⟨cell_below (show Below w1.heap.size w1 _ from ?_) x0, cell_below (show Below w1.heap.size w1 _ from ?_) x1, cell_below (show Below w1.heap.size w1 _ from ?_) x2, cell_below (show Below w1.heap.size w1 _ from ?_) x3⟩ <;> ((repeat (first | (with_reducible assumption) | (with_reducible exact Below.refl _ _) | (with_reducible apply below_alloc) | (with_reducible apply below_drewN) | (with_reducible apply Below.drew) | (with_reducible refine below_set ?_ (by dsimp only; omega) _) | (with_reducible refine below_trans ?_ (by assumption)))); done)) | go_keep)
              clear hK K
              refine wpAnyH_take (i := 12) (oi := _) (v := ?_) rfl (by kernel_rfl) (by kernel_rfl) (by kernel_rfl) (fun _ _ _ h => h) (Or.inl ⟨by rfl, ?hy⟩) (by assumption) ?_
              case hy => ((intro w hSw; (try dsimp only at hSw); go_simp); (try with_reducible rfl))
              try simp only [Act.put, List.setIfInBounds_toArray, List.set_cons_zero, List.set_cons_succ]
              refine wpAnyH_ready (rs := [13]) (by kernel_rfl) (by simp) ?_
              refine AllReadyH.cons rfl (fun K hK => ?_) ?_
              · go_simp
                refine hK.out _ _ ?_ (fun hHeld => ?_)
                · (try dsimp only); (first | (with_reducible exact ⟨x0, x1, x2, x3⟩) | (simp only [cell_farN hp, g0, g1, g2, g3, and_self]; done) | (refine ⟨cell_below (show Below w1.heap.size w1 _ from ?_) x0, cell_below (show Below w1.heap.size w1 _ from ?_) x1, cell_below (show Below w1.heap.size w1 _ from ?_) x2, cell_below (show Below w1.heap.size w1 _ from ?_) x3⟩ <;> ((repeat (first | (with_reducible assumption) | (with_reducible exact Below.refl _ _) | (with_reducible apply below_alloc) | (with_reducible apply below_drewN) | (with_reducible apply Below.drew) | (with_reducible refine below_set ?_ (by dsimp only; omega) _) | (with_reducible refine below_trans ?_ (by assumption)))); done)) | go_keep)
                clear hK K
                refine wpAnyH_done (by kernel_rfl) ?_ _
                (go_wp2_with fail)
                exact bodyPost_ret (v := .agg #[.int .i64 0, .string tx]) (by simp [results, Tryz.results7, go_sem, r0, r1]) rfl ⟨by rw [HT.out], by repeat (first | (with_reducible assumption) | (with_reducible exact Below.refl _ _) | (with_reducible apply below_alloc) | (with_reducible apply below_drewN) | (with_reducible apply Below.drew) | (with_reducible refine below_set ?_ (by dsimp only; omega) _) | (with_reducible refine below_trans ?_ (by assumption)))⟩
              exact AllReadyH.nil
            exact AllReadyH.nil
          exact AllReadyH.nil
        exact AllReadyH.nil
      exact AllReadyH.nil
    refine AllReadyH.cons rfl (fun K hK => ?_) ?_
    · go_simp
      refine hK.out _ _ ?_ (fun hHeld => ?_)
      · (try dsimp only); (first | (with_reducible exact ⟨x0, x1, x2, x3⟩) | (simp only [cell_farN hp, g0, g1, g2, g3, and_self]; done) | (refine ⟨cell_below (show Below w1.heap.size w1 _ from ?_) x0, cell_below (show Below w1.heap.size w1 _ from ?_) x1, cell_below (show Below w1.heap.size w1 _ from ?_) x2, cell_below (show Below w1.heap.size w1 _ from ?_) x3⟩ <;> ((repeat (first | (with_reducible assumption) | (with_reducible exact Below.refl _ _) | (with_reducible apply below_alloc) | (with_reducible apply below_drewN) | (with_reducible apply Below.drew) | (with_reducible refine below_set ?_ (by dsimp only; omega) _) | (with_reducible refine below_trans ?_ (by assumption)))); done)) | go_keep)
      clear hK K
      refine wpAnyH_ready (rs := [4]) (by kernel_rfl) (by simp) ?_
      refine AllReadyH.cons rfl (fun K hK => ?_) ?_
      · go_simp
        refine hK.out _ _ ?_ (fun hHeld => ?_)
        · (try dsimp only); (first | (with_reducible exact ⟨x0, x1, x2, x3⟩) | (simp only [cell_farN hp, g0, g1, g2, g3, and_self]; done) | (refine ⟨cell_below (show Below w1.heap.size w1 _ from ?_) x0, cell_below (show Below w1.heap.size w1 _ from ?_) x1, cell_below (show Below w1.heap.size w1 _ from ?_) x2, cell_below (show Below w1.heap.size w1 _ from ?_) x3⟩ <;> ((repeat (first | (with_reducible assumption) | (with_reducible exact Below.refl _ _) | (with_reducible apply below_alloc) | (with_reducible apply below_drewN) | (with_reducible apply Below.drew) | (with_reducible refine below_set ?_ (by dsimp only; omega) _) | (with_reducible refine below_trans ?_ (by assumption)))); done)) | go_keep)
        clear hK K
        refine wpAnyH_ready (rs := [8]) (by kernel_rfl) (by simp) ?_
        refine AllReadyH.cons rfl (fun K hK => ?_) ?_
        · go_simp
          go_wp2_with (first | (go_at_call 17; refine (HN.out _).mono ?_; rintro e wn ⟨gn, rfl, nC, hbn⟩; have ng : gn < wn.heap.size := cell_lt nC; (first | (have vB := (hvd _).below (by with_reducible exact hbn)) | (have vB := vB.below hbn) | skip); have zW := zB.below (show Below w1.heap.size w1 wn by repeat (first | (with_reducible assumption) | (with_reducible exact Below.refl _ _) | (with_reducible apply below_alloc) | (with_reducible apply below_drewN) | (with_reducible apply Below.drew) | (with_reducible refine below_set ?_ (by dsimp only; omega) _) | (with_reducible refine below_trans ?_ (by assumption)))); have r0 := zW.cell (j := 0) rfl; have y0 := zW.frozen 0; have r1 := zW.cell (j := 1) rfl; have y1 := zW.frozen 1; have zl := zW.lt) | (go_at_call 16; (first | (with_reducible refine (H1.out _ _ _ ?_).mono ?_) | (with_reducible refine (H2.out _ _ _ ?_).mono ?_)); (first | exact fR | exact rdS_blkI (xs := [(V : Int)]) vB rfl (by simp) | exact rdS_blkI (xs := [(V : Int)]) (blk_alloc wn _ _) rfl (by simp)); rintro e wl ⟨rfl, hbl⟩; have g0 := cell_below (show Below w1.heap.size w1 wl by repeat (first | (with_reducible assumption) | (with_reducible exact Below.refl _ _) | (with_reducible apply below_alloc) | (with_reducible apply below_drewN) | (with_reducible apply Below.drew) | (with_reducible refine below_set ?_ (by dsimp only; omega) _) | (with_reducible refine below_trans ?_ (by assumption)))) x0; have g1 := cell_below (show Below w1.heap.size w1 wl by repeat (first | (with_reducible assumption) | (with_reducible exact Below.refl _ _) | (with_reducible apply below_alloc) | (with_reducible apply below_drewN) | (with_reducible apply Below.drew) | (with_reducible refine below_set ?_ (by dsimp only; omega) _) | (with_reducible refine below_trans ?_ (by assumption)))) x1; have g2 := cell_below (show Below w1.heap.size w1 wl by repeat (first | (with_reducible assumption) | (with_reducible exact Below.refl _ _) | (with_reducible apply below_alloc) | (with_reducible apply below_drewN) | (with_reducible apply Below.drew) | (with_reducible refine below_set ?_ (by dsimp only; omega) _) | (with_reducible refine below_trans ?_ (by assumption)))) x2; have g3 := cell_below (show Below w1.heap.size w1 wl by repeat (first | (with_reducible assumption) | (with_reducible exact Below.refl _ _) | (with_reducible apply below_alloc) | (with_reducible apply below_drewN) | (with_reducible apply Below.drew) | (with_reducible refine below_set ?_ (by dsimp only; omega) _) | (with_reducible refine below_trans ?_ (by assumption)))) x3; (first | (have nC := cell_below hbl nC; have ng : gn < wl.heap.size := cell_lt nC) | skip); have zW := zB.below (show Below w1.heap.size w1 wl by repeat (first | (with_reducible assumption) | (with_reducible exact Below.refl _ _) | (with_reducible apply below_alloc) | (with_reducible apply below_drewN) | (with_reducible apply Below.drew) | (with_reducible refine below_set ?_ (by dsimp only; omega) _) | (with_reducible refine below_trans ?_ (by assumption)))); have r0 := zW.cell (j := 0) rfl; have y0 := zW.frozen 0; have r1 := zW.cell (j := 1) rfl; have y1 := zW.frozen 1; have zl := zW.lt) | (go_at_call 18; refine (HQ.out _).mono ?_; rintro e wf ⟨FA, fc, rfl, fR, hbf⟩; (first | (have vB := (hvd _).below (by with_reducible exact hbf)) | (have vB := vB.below hbf) | skip); (first | (have nC := cell_below hbf nC; have ng : gn < wf.heap.size := cell_lt nC) | skip); have zW := zB.below (show Below w1.heap.size w1 wf by repeat (first | (with_reducible assumption) | (with_reducible exact Below.refl _ _) | (with_reducible apply below_alloc) | (with_reducible apply below_drewN) | (with_reducible apply Below.drew) | (with_reducible refine below_set ?_ (by dsimp only; omega) _) | (with_reducible refine below_trans ?_ (by assumption)))); have r0 := zW.cell (j := 0) rfl; have y0 := zW.frozen 0; have r1 := zW.cell (j := 1) rfl; have y1 := zW.frozen 1; have zl := zW.lt))
          refine hK.out _ _ ?_ (fun hHeld => ?_)
          · (try dsimp only); (first | (with_reducible exact ⟨x0, x1, x2, x3⟩) | (simp only [cell_farN hp, g0, g1, g2, g3, and_self]; done) | (refine ⟨cell_below (show Below w1.heap.size w1 _ from ?_) x0, cell_below (show Below w1.heap.size w1 _ from ?_) x1, cell_below (show Below w1.heap.size w1 _ from ?_) x2, cell_below (show Below w1.heap.size w1 _ from ?_) x3⟩ <;> ((repeat (first | (with_reducible assumption) | (with_reducible exact Below.refl _ _) | (with_reducible apply below_alloc) | (with_reducible apply below_drewN) | (with_reducible apply Below.drew) | (with_reducible refine below_set ?_ (by dsimp only; omega) _) | (with_reducible refine below_trans ?_ (by assumption)))); done)) | go_keep)
          clear hK K
          refine wpAnyH_ready (rs := [10]) (by kernel_rfl) (by simp) ?_
          refine AllReadyH.cons rfl (fun K hK => ?_) ?_
          · go_simp
            go_wp2_with (first | (go_at_call 17; refine (HN.out _).mono ?_; rintro e wn ⟨gn, rfl, nC, hbn⟩; have ng : gn < wn.heap.size := cell_lt nC; (first | (have vB := (hvd _).below (by with_reducible exact hbn)) | (have vB := vB.below hbn) | skip); have zW := zB.below (show Below w1.heap.size w1 wn by repeat (first | (with_reducible assumption) | (with_reducible exact Below.refl _ _) | (with_reducible apply below_alloc) | (with_reducible apply below_drewN) | (with_reducible apply Below.drew) | (with_reducible refine below_set ?_ (by dsimp only; omega) _) | (with_reducible refine below_trans ?_ (by assumption)))); have r0 := zW.cell (j := 0) rfl; have y0 := zW.frozen 0; have r1 := zW.cell (j := 1) rfl; have y1 := zW.frozen 1; have zl := zW.lt) | (go_at_call 16; (first | (with_reducible refine (H1.out _ _ _ ?_).mono ?_) | (with_reducible refine (H2.out _ _ _ ?_).mono ?_)); (first | exact fR | exact rdS_blkI (xs := [(V : Int)]) vB rfl (by simp) | exact rdS_blkI (xs := [(V : Int)]) (blk_alloc wn _ _) rfl (by simp)); rintro e wl ⟨rfl, hbl⟩; have g0 := cell_below (show Below w1.heap.size w1 wl by repeat (first | (with_reducible assumption) | (with_reducible exact Below.refl _ _) | (with_reducible apply below_alloc) | (with_reducible apply below_drewN) | (with_reducible apply Below.drew) | (with_reducible refine below_set ?_ (by dsimp only; omega) _) | (with_reducible refine below_trans ?_ (by assumption)))) x0; have g1 := cell_below (show Below w1.heap.size w1 wl by repeat (first | (with_reducible assumption) | (with_reducible exact Below.refl _ _) | (with_reducible apply below_alloc) | (with_reducible apply below_drewN) | (with_reducible apply Below.drew) | (with_reducible refine below_set ?_ (by dsimp only; omega) _) | (with_reducible refine below_trans ?_ (by assumption)))) x1; have g2 := cell_below (show Below w1.heap.size w1 wl by repeat (first | (with_reducible assumption) | (with_reducible exact Below.refl _ _) | (with_reducible apply below_alloc) | (with_reducible apply below_drewN) | (with_reducible apply Below.drew) | (with_reducible refine below_set ?_ (by dsimp only; omega) _) | (with_reducible refine below_trans ?_ (by assumption)))) x2; have g3 := cell_below (show Below w1.heap.size w1 wl by repeat (first | (with_reducible assumption) | (with_reducible exact Below.refl _ _) | (with_reducible apply below_alloc) | (with_reducible apply below_drewN) | (with_reducible apply Below.drew) | (with_reducible refine below_set ?_ (by dsimp only; omega) _) | (with_reducible refine below_trans ?_ (by assumption)))) x3; (first | (have nC := cell_below hbl nC; have ng : gn < wl.heap.size := cell_lt nC) | skip); have zW := zB.below (show Below w1.heap.size w1 wl by repeat (first | (with_reducible assumption) | (with_reducible exact Below.refl _ _) | (with_reducible apply below_alloc) | (with_reducible apply below_drewN) | (with_reducible apply Below.drew) | (with_reducible refine below_set ?_ (by dsimp only; omega) _) | (with_reducible refine below_trans ?_ (by assumption)))); have r0 := zW.cell (j := 0) rfl; have y0 := zW.frozen 0; have r1 := zW.cell (j := 1) rfl; have y1 := zW.frozen 1; have zl := zW.lt) | (go_at_call 18; refine (HQ.out _).mono ?_; rintro e wf ⟨FA, fc, rfl, fR, hbf⟩; (first | (have vB := (hvd _).below (by with_reducible exact hbf)) | (have vB := vB.below hbf) | skip); (first | (have nC := cell_below hbf nC; have ng : gn < wf.heap.size := cell_lt nC) | skip); have zW := zB.below (show Below w1.heap.size w1 wf by repeat (first | (with_reducible assumption) | (with_reducible exact Below.refl _ _) | (with_reducible apply below_alloc) | (with_reducible apply below_drewN) | (with_reducible apply Below.drew) | (with_reducible refine below_set ?_ (by dsimp only; omega) _) | (with_reducible refine below_trans ?_ (by assumption)))); have r0 := zW.cell (j := 0) rfl; have y0 := zW.frozen 0; have r1 := zW.cell (j := 1) rfl; have y1 := zW.frozen 1; have zl := zW.lt))
            refine hK.out _ _ ?_ (fun hHeld => ?_)
            · (try dsimp only); (first | (with_reducible exact ⟨x0, x1, x2, x3⟩) | (simp only [cell_farN hp, g0, g1, g2, g3, and_self]; done) | (refine ⟨cell_below (show Below w1.heap.size w1 _ from ?_) x0, cell_below (show Below w1.heap.size w1 _ from ?_) x1, cell_below (show Below w1.heap.size w1 _ from ?_) x2, cell_below (show Below w1.heap.size w1 _ from ?_) x3⟩ <;> ((repeat (first | (with_reducible assumption) | (with_reducible exact Below.refl _ _) | (with_reducible apply below_alloc) | (with_reducible apply below_drewN) | (with_reducible apply Below.drew) | (with_reducible refine below_set ?_ (by dsimp only; omega) _) | (with_reducible refine below_trans ?_ (by assumption)))); done)) | go_keep)
            clear hK K
            refine wpAnyH_ready (rs := [11]) (by kernel_rfl) (by simp) ?_
            refine AllReadyH.cons rfl (fun K hK => ?_) ?_
            · go_simp
              go_wp2_with (first | (go_at_call 17; refine (HN.out _).mono ?_; rintro e wn ⟨gn, rfl, nC, hbn⟩; have ng : gn < wn.heap.size := cell_lt nC; (first | (have vB := (hvd _).below (by with_reducible exact hbn)) | (have vB := vB.below hbn) | skip); have zW := zB.below (show Below w1.heap.size w1 wn by repeat (first | (with_reducible assumption) | (with_reducible exact Below.refl _ _) | (with_reducible apply below_alloc) | (with_reducible apply below_drewN) | (with_reducible apply Below.drew) | (with_reducible refine below_set ?_ (by dsimp only; omega) _) | (with_reducible refine below_trans ?_ (by assumption)))); have r0 := zW.cell (j := 0) rfl; have y0 := zW.frozen 0; have r1 := zW.cell (j := 1) rfl; have y1 := zW.frozen 1; have zl := zW.lt) | (go_at_call 16; (first | (with_reducible refine (H1.out _ _ _ ?_).mono ?_) | (with_reducible refine (H2.out _ _ _ ?_).mono ?_)); (first | exact fR | exact rdS_blkI (xs := [(V : Int)]) vB rfl (by simp) | exact rdS_blkI (xs := [(V : Int)]) (blk_alloc wn _ _) rfl (by simp)); rintro e wl ⟨rfl, hbl⟩; have g0 := cell_below (show Below w1.heap.size w1 wl by repeat (first | (with_reducible assumption) | (with_reducible exact Below.refl _ _) | (with_reducible apply below_alloc) | (with_reducible apply below_drewN) | (with_reducible apply Below.drew) | (with_reducible refine below_set ?_ (by dsimp only; omega) _) | (with_reducible refine below_trans ?_ (by assumption)))) x0; have g1 := cell_below (show Below w1.heap.size w1 wl by repeat (first | (with_reducible assumption) | (with_reducible exact Below.refl _ _) | (with_reducible apply below_alloc) | (with_reducible apply below_drewN) | (with_reducible apply Below.drew) | (with_reducible refine below_set ?_ (by dsimp only; omega) _) | (with_reducible refine below_trans ?_ (by assumption)))) x1; have g2 := cell_below (show Below w1.heap.size w1 wl by repeat (first | (with_reducible assumption) | (with_reducible exact Below.refl _ _) | (with_reducible apply below_alloc) | (with_reducible apply below_drewN) | (with_reducible apply Below.drew) | (with_reducible refine below_set ?_ (by dsimp only; omega) _) | (with_reducible refine below_trans ?_ (by assumption)))) x2; have g3 := cell_below (show Below w1.heap.size w1 wl by repeat (first | (with_reducible assumption) | (with_reducible exact Below.refl _ _) | (with_reducible apply below_alloc) | (with_reducible apply below_drewN) | (with_reducible apply Below.drew) | (with_reducible refine below_set ?_ (by dsimp only; omega) _) | (with_reducible refine below_trans ?_ (by assumption)))) x3; (first | (have nC := cell_below hbl nC; have ng : gn < wl.heap.size := cell_lt nC) | skip); have zW := zB.below (show Below w1.heap.size w1 wl by repeat (first | (with_reducible assumption) | (with_reducible exact Below.refl _ _) | (with_reducible apply below_alloc) | (with_reducible apply below_drewN) | (with_reducible apply Below.drew) | (with_reducible refine below_set ?_ (by dsimp only; omega) _) | (with_reducible refine below_trans ?_ (by assumption)))); have r0 := zW.cell (j := 0) rfl; have y0 := zW.frozen 0; have r1 := zW.cell (j := 1) rfl; have y1 := zW.frozen 1; have zl := zW.lt) | (go_at_call 18; refine (HQ.out _).mono ?_; rintro e wf ⟨FA, fc, rfl, fR, hbf⟩; (first | (have vB := (hvd _).below (by with_reducible exact hbf)) | (have vB := vB.below hbf) | skip); (first | (have nC := cell_below hbf nC; have ng : gn < wf.heap.size := cell_lt nC) | skip); have zW := zB.below (show Below w1.heap.size w1 wf by repeat (first | (with_reducible assumption) | (with_reducible exact Below.refl _ _) | (with_reducible apply below_alloc) | (with_reducible apply below_drewN) | (with_reducible apply Below.drew) | (with_reducible refine below_set ?_ (by dsimp only; omega) _) | (with_reducible refine below_trans ?_ (by assumption)))); have r0 := zW.cell (j := 0) rfl; have y0 := zW.frozen 0; have r1 := zW.cell (j := 1) rfl; have y1 := zW.frozen 1; have zl := zW.lt))
              refine hK.out _ _ ?_ (fun hHeld => ?_)
              · (try dsimp only); (first | (with_reducible exact ⟨x0, x1, x2, x3⟩) | (simp only [cell_farN hp, g0, g1, g2, g3, and_self]; done) | (refine ⟨cell_below (show Below w1.heap.size w1 _ from ?_) x0, cell_below (show Below w1.heap.size w1 _ from ?_) x1, cell_below (show Below w1.heap.size w1 _ from ?_) x2, cell_below (show Below w1.heap.size w1 _ from ?_) x3⟩ <;> ((repeat (first | (with_reducible assumption) | (with_reducible exact Below.refl _ _) | (with_reducible apply below_alloc) | (with_reducible apply below_drewN) | (with_reducible apply Below.drew) | (with_reducible refine below_set ?_ (by dsimp only; omega) _) | (with_reducible refine below_trans ?_ (by assumption)))); done)) | go_keep)
              clear hK K
              refine wpAnyH_take (i := 12) (oi := _) (v := ?_) rfl (by kernel_rfl) (by kernel_rfl) (by kernel_rfl) (fun _ _ _ h => h) (Or.inl ⟨by rfl, ?hy⟩) (by assumption) ?_
              case hy => ((intro w hSw; (try dsimp only at hSw); go_simp); (try with_reducible rfl))
              try simp only [Act.put, List.setIfInBounds_toArray, List.set_cons_zero, List.set_cons_succ]
              refine wpAnyH_ready (rs := [13]) (by kernel_rfl) (by simp) ?_
              refine AllReadyH.cons rfl (fun K hK => ?_) ?_
              · go_simp
                refine hK.out _ _ ?_ (fun hHeld => ?_)
                · (try dsimp only); (first | (with_reducible exact ⟨x0, x1, x2, x3⟩) | (simp only [cell_farN hp, g0, g1, g2, g3, and_self]; done) | (refine ⟨cell_below (show Below w1.heap.size w1 _ from ?_) x0, cell_below (show Below w1.heap.size w1 _ from ?_) x1, cell_below (show Below w1.heap.size w1 _ from ?_) x2, cell_below (show Below w1.heap.size w1 _ from ?_) x3⟩ <;> ((repeat (first | (with_reducible assumption) | (with_reducible exact Below.refl _ _) | (with_reducible apply below_alloc) | (with_reducible apply below_drewN) | (with_reducible apply Below.drew) | (with_reducible refine below_set ?_ (by dsimp only; omega) _) | (with_reducible refine below_trans ?_ (by assumption)))); done)) | go_keep)
                clear hK K
                refine wpAnyH_done (by kernel_rfl) ?_ _
                (go_wp2_with fail)
                exact bodyPost_ret (v := .agg #[.int .i64 0, .string tx]) (by simp [results, Tryz.results7, go_sem, r0, r1]) rfl ⟨by rw [HT.out], by repeat (first | (with_reducible assumption) | (with_reducible exact Below.refl _ _) | (with_reducible apply below_alloc) | (with_reducible apply below_drewN) | (with_reducible apply Below.drew) | (with_reducible refine below_set ?_ (by dsimp only; omega) _) | (with_reducible refine below_trans ?_ (by assumption)))⟩
              exact AllReadyH.nil
            exact AllReadyH.nil
          exact AllReadyH.nil
        exact AllReadyH.nil
      exact AllReadyH.nil
    exact AllReadyH.nil
  refine AllReadyH.cons rfl (fun K hK => ?_) ?_
  · go_simp
    refine hK.out _ _ ?_ (fun hHeld => ?_)
    · (try dsimp only); (first | (with_reducible exact ⟨x0, x1, x2, x3⟩) | (simp only [cell_farN hp, g0, g1, g2, g3, and_self]; done) | (refine ⟨cell_below (show Below w1.heap.size w1 _ from ?_) x0, cell_below (show Below w1.heap.size w1 _ from ?_) x1, cell_below (show Below w1.heap.size w1 _ from ?_) x2, cell_below (show Below w1.heap.size w1 _ from ?_) x3⟩ <;> ((repeat (first | (with_reducible assumption) | (with_reducible exact Below.refl _ _) | (with_reducible apply below_alloc) | (with_reducible apply below_drewN) | (with_reducible apply Below.drew) | (with_reducible refine below_set ?_ (by dsimp only; omega) _) | (with_reducible refine below_trans ?_ (by assumption)))); done)) | go_keep)
    clear hK K
    refine wpAnyH_ready (rs := [0]) (by kernel_rfl) (by simp) ?_
    refine AllReadyH.cons rfl (fun K hK => ?_) ?_
    · go_simp
      go_wp2_with (first | (go_at_call 17; refine (HN.out _).mono ?_; rintro e wn ⟨gn, rfl, nC, hbn⟩; have ng : gn < wn.heap.size := cell_lt nC; (first | (have vB := (hvd _).below (by with_reducible exact hbn)) | (have vB := vB.below hbn) | skip); have zW := zB.below (show Below w1.heap.size w1 wn by repeat (first | (with_reducible assumption) | (with_reducible exact Below.refl _ _) | (with_reducible apply below_alloc) | (with_reducible apply below_drewN) | (with_reducible apply Below.drew) | (with_reducible refine below_set ?_ (by dsimp only; omega) _) | (with_reducible refine below_trans ?_ (by assumption)))); have r0 := zW.cell (j := 0) rfl; have y0 := zW.frozen 0; have r1 := zW.cell (j := 1) rfl; have y1 := zW.frozen 1; have zl := zW.lt) | (go_at_call 16; (first | (with_reducible refine (H1.out _ _ _ ?_).mono ?_) | (with_reducible refine (H2.out _ _ _ ?_).mono ?_)); (first | exact fR | exact rdS_blkI (xs := [(V : Int)]) vB rfl (by simp) | exact rdS_blkI (xs := [(V : Int)]) (blk_alloc wn _ _) rfl (by simp)); rintro e wl ⟨rfl, hbl⟩; have g0 := cell_below (show Below w1.heap.size w1 wl by repeat (first | (with_reducible assumption) | (with_reducible exact Below.refl _ _) | (with_reducible apply below_alloc) | (with_reducible apply below_drewN) | (with_reducible apply Below.drew) | (with_reducible refine below_set ?_ (by dsimp only; omega) _) | (with_reducible refine below_trans ?_ (by assumption)))) x0; have g1 := cell_below (show Below w1.heap.size w1 wl by repeat (first | (with_reducible assumption) | (with_reducible exact Below.refl _ _) | (with_reducible apply below_alloc) | (with_reducible apply below_drewN) | (with_reducible apply Below.drew) | (with_reducible refine below_set ?_ (by dsimp only; omega) _) | (with_reducible refine below_trans ?_ (by assumption)))) x1; have g2 := cell_below (show Below w1.heap.size w1 wl by repeat (first | (with_reducible assumption) | (with_reducible exact Below.refl _ _) | (with_reducible apply below_alloc) | (with_reducible apply below_drewN) | (with_reducible apply Below.drew) | (with_reducible refine below_set ?_ (by dsimp only; omega) _) | (with_reducible refine below_trans ?_ (by assumption)))) x2; have g3 := cell_below (show Below w1.heap.size w1 wl by repeat (first | (with_reducible assumption) | (with_reducible exact Below.refl _ _) | (with_reducible apply below_alloc) | (with_reducible apply below_drewN) | (with_reducible apply Below.drew) | (with_reducible refine below_set ?_ (by dsimp only; omega) _) | (with_reducible refine below_trans ?_ (by assumption)))) x3; (first | (have nC := cell_below hbl nC; have ng : gn < wl.heap.size := cell_lt nC) | skip); have zW := zB.below (show Below w1.heap.size w1 wl by repeat (first | (with_reducible assumption) | (with_reducible exact Below.refl _ _) | (with_reducible apply below_alloc) | (with_reducible apply below_drewN) | (with_reducible apply Below.drew) | (with_reducible refine below_set ?_ (by dsimp only; omega) _) | (with_reducible refine below_trans ?_ (by assumption)))); have r0 := zW.cell (j := 0) rfl; have y0 := zW.frozen 0; have r1 := zW.cell (j := 1) rfl; have y1 := zW.frozen 1; have zl := zW.lt) | (go_at_call 18; refine (HQ.out _).mono ?_; rintro e wf ⟨FA, fc, rfl, fR, hbf⟩; (first | (have vB := (hvd _).below (by with_reducible exact hbf)) | (have vB := vB.below hbf) | skip); (first | (have nC := cell_below hbf nC; have ng : gn < wf.heap.size := cell_lt nC) | skip); have zW := zB.below (show Below w1.heap.size w1 wf by repeat (first | (with_reducible assumption) | (with_reducible exact Below.refl _ _) | (with_reducible apply below_alloc) | (with_reducible apply below_drewN) | (with_reducible apply Below.drew) | (with_reducible refine below_set ?_ (by dsimp only; omega) _) | (with_reducible refine below_trans ?_ (by assumption)))); have r0 := zW.cell (j := 0) rfl; have y0 := zW.frozen 0; have r1 := zW.cell (j := 1) rfl; have y1 := zW.frozen 1; have zl := zW.lt))
      refine hK.out _ _ ?_ (fun hHeld => ?_)
      · (try dsimp only); (first | (with_reducible exact ⟨x0, x1, x2, x3⟩) | (simp only [cell_farN hp, g0, g1, g2, g3, and_self]; done) | (refine ⟨cell_below (show Below w1.heap.size w1 _ from ?_) x0, cell_below (show Below w1.heap.size w1 _ from ?_) x1, cell_below (show Below w1.heap.size w1 _ from ?_) x2, cell_below (show Below w1.heap.size w1 _ from ?_) x3⟩ <;> ((repeat (first | (with_reducible assumption) | (with_reducible exact Below.refl _ _) | (with_reducible apply below_alloc) | (with_reducible apply below_drewN) | (with_reducible apply Below.drew) | (with_reducible refine below_set ?_ (by dsimp only; omega) _) | (with_reducible refine below_trans ?_ (by assumption)))); done)) | go_keep)
      clear hK K
      refine wpAnyH_take (i := 3) (oi := _) (v := ?_) rfl (by kernel_rfl) (by kernel_rfl) (by kernel_rfl) (fun _ _ _ h => h) (Or.inl ⟨by rfl, ?hy⟩) (by assumption) ?_
      case hy => ((intro w hSw; (try dsimp only at hSw); go_simp); (try with_reducible rfl))
      try simp only [Act.put, List.setIfInBounds_toArray, List.set_cons_zero, List.set_cons_succ]
      refine wpAnyH_ready (rs := [4]) (by kernel_rfl) (by simp) ?_
      refine AllReadyH.cons rfl (fun K hK => ?_) ?_
      · go_simp
        refine hK.out _ _ ?_ (fun hHeld => ?_)
        · (try dsimp only); (first | (with_reducible exact ⟨x0, x1, x2, x3⟩) | (simp only [cell_farN hp, g0, g1, g2, g3, and_self]; done) | (refine ⟨cell_below (show Below w1.heap.size w1 _ from ?_) x0, cell_below (show Below w1.heap.size w1 _ from ?_) x1, cell_below (show Below w1.heap.size w1 _ from ?_) x2, cell_below (show Below w1.heap.size w1 _ from ?_) x3⟩ <;> ((repeat (first | (with_reducible assumption) | (with_reducible exact Below.refl _ _) | (with_reducible apply below_alloc) | (with_reducible apply below_drewN) | (with_reducible apply Below.drew) | (with_reducible refine below_set ?_ (by dsimp only; omega) _) | (with_reducible refine below_trans ?_ (by assumption)))); done)) | go_keep)
        clear hK K
        refine wpAnyH_ready (rs := [8]) (by kernel_rfl) (by simp) ?_
        refine AllReadyH.cons rfl (fun K hK => ?_) ?_
        · go_simp
          go_wp2_with (first | (go_at_call 17; refine (HN.out _).mono ?_; rintro e wn ⟨gn, rfl, nC, hbn⟩; have ng : gn < wn.heap.size := cell_lt nC; (first | (have vB := (hvd _).below (by with_reducible exact hbn)) | (have vB := vB.below hbn) | skip); have zW := zB.below (show Below w1.heap.size w1 wn by repeat (first | (with_reducible assumption) | (with_reducible exact Below.refl _ _) | (with_reducible apply below_alloc) | (with_reducible apply below_drewN) | (with_reducible apply Below.drew) | (with_reducible refine below_set ?_ (by dsimp only; omega) _) | (with_reducible refine below_trans ?_ (by assumption)))); have r0 := zW.cell (j := 0) rfl; have y0 := zW.frozen 0; have r1 := zW.cell (j := 1) rfl; have y1 := zW.frozen 1; have zl := zW.lt) | (go_at_call 16; (first | (with_reducible refine (H1.out _ _ _ ?_).mono ?_) | (with_reducible refine (H2.out _ _ _ ?_).mono ?_)); (first | exact fR | exact rdS_blkI (xs := [(V : Int)]) vB rfl (by simp) | exact rdS_blkI (xs := [(V : Int)]) (blk_alloc wn _ _) rfl (by simp)); rintro e wl ⟨rfl, hbl⟩; have g0 := cell_below (show Below w1.heap.size w1 wl by repeat (first | (with_reducible assumption) | (with_reducible exact Below.refl _ _) | (with_reducible apply below_alloc) | (with_reducible apply below_drewN) | (with_reducible apply Below.drew) | (with_reducible refine below_set ?_ (by dsimp only; omega) _) | (with_reducible refine below_trans ?_ (by assumption)))) x0; have g1 := cell_below (show Below w1.heap.size w1 wl by repeat (first | (with_reducible assumption) | (with_reducible exact Below.refl _ _) | (with_reducible apply below_alloc) | (with_reducible apply below_drewN) | (with_reducible apply Below.drew) | (with_reducible refine below_set ?_ (by dsimp only; omega) _) | (with_reducible refine below_trans ?_ (by assumption)))) x1; have g2 := cell_below (show Below w1.heap.size w1 wl by repeat (first | (with_reducible assumption) | (with_reducible exact Below.refl _ _) | (with_reducible apply below_alloc) | (with_reducible apply below_drewN) | (with_reducible apply Below.drew) | (with_reducible refine below_set ?_ (by dsimp only; omega) _) | (with_reducible refine below_trans ?_ (by assumption)))) x2; have g3 := cell_below (show Below w1.heap.size w1 wl by repeat (first | (with_reducible assumption) | (with_reducible exact Below.refl _ _) | (with_reducible apply below_alloc) | (with_reducible apply below_drewN) | (with_reducible apply Below.drew) | (with_reducible refine below_set ?_ (by dsimp only; omega) _) | (with_reducible refine below_trans ?_ (by assumption)))) x3; (first | (have nC := cell_below hbl nC; have ng : gn < wl.heap.size := cell_lt nC) | skip); have zW := zB.below (show Below w1.heap.size w1 wl by repeat (first | (with_reducible assumption) | (with_reducible exact Below.refl _ _) | (with_reducible apply below_alloc) | (with_reducible apply below_drewN) | (with_reducible apply Below.drew) | (with_reducible refine below_set ?_ (by dsimp only; omega) _) | (with_reducible refine below_trans ?_ (by assumption)))); have r0 := zW.cell (j := 0) rfl; have y0 := zW.frozen 0; have r1 := zW.cell (j := 1) rfl; have y1 := zW.frozen 1; have zl := zW.lt) | (go_at_call 18; refine (HQ.out _).mono ?_; rintro e wf ⟨FA, fc, rfl, fR, hbf⟩; (first | (have vB := (hvd _).below (by with_reducible exact hbf)) | (have vB := vB.below hbf) | skip); (first | (have nC := cell_below hbf nC; have ng : gn < wf.heap.size := cell_lt nC) | skip); have zW := zB.below (show Below w1.heap.size w1 wf by repeat (first | (with_reducible assumption) | (with_reducible exact Below.refl _ _) | (with_reducible apply below_alloc) | (with_reducible apply below_drewN) | (with_reducible apply Below.drew) | (with_reducible refine below_set ?_ (by dsimp only; omega) _) | (with_reducible refine below_trans ?_ (by assumption)))); have r0 := zW.cell (j := 0) rfl; have y0 := zW.frozen 0; have r1 := zW.cell (j := 1) rfl; have y1 := zW.frozen 1; have zl := zW.lt))
          refine hK.out _ _ ?_ (fun hHeld => ?_)
          · (try dsimp only); (first | (with_reducible exact ⟨x0, x1, x2, x3⟩) | (simp only [cell_farN hp, g0, g1, g2, g3, and_self]; done) | (refine ⟨cell_below (show Below w1.heap.size w1 _ from ?_) x0, cell_below (show Below w1.heap.size w1 _ from ?_) x1, cell_below (show Below w1.heap.size w1 _ from ?_) x2, cell_below (show Below w1.heap.size w1 _ from ?_) x3⟩ <;> ((repeat (first | (with_reducible assumption) | (with_reducible exact Below.refl _ _) | (with_reducible apply below_alloc) | (with_reducible apply below_drewN) | (with_reducible apply Below.drew) | (with_reducible refine below_set ?_ (by dsimp only; omega) _) | (with_reducible refine below_trans ?_ (by assumption)))); done)) | go_keep)
          clear hK K
          refine wpAnyH_ready (rs := [10]) (by kernel_rfl) (by simp) ?_
          refine AllReadyH.cons rfl (fun K hK => ?_) ?_
          · go_simp
            go_wp2_with (first | (go_at_call 17; refine (HN.out _).mono ?_; rintro e wn ⟨gn, rfl, nC, hbn⟩; have ng : gn < wn.heap.size := cell_lt nC; (first | (have vB := (hvd _).below (by with_reducible exact hbn)) | (have vB := vB.below hbn) | skip); have zW := zB.below (show Below w1.heap.size w1 wn by repeat (first | (with_reducible assumption) | (with_reducible exact Below.refl _ _) | (with_reducible apply below_alloc) | (with_reducible apply below_drewN) | (with_reducible apply Below.drew) | (with_reducible refine below_set ?_ (by dsimp only; omega) _) | (with_reducible refine below_trans ?_ (by assumption)))); have r0 := zW.cell (j := 0) rfl; have y0 := zW.frozen 0; have r1 := zW.cell (j := 1) rfl; have y1 := zW.frozen 1; have zl := zW.lt) | (go_at_call 16; (first | (with_reducible refine (H1.out _ _ _ ?_).mono ?_) | (with_reducible refine (H2.out _ _ _ ?_).mono ?_)); (first | exact fR | exact rdS_blkI (xs := [(V : Int)]) vB rfl (by simp) | exact rdS_blkI (xs := [(V : Int)]) (blk_alloc wn _ _) rfl (by simp)); rintro e wl ⟨rfl, hbl⟩; have g0 := cell_below (show Below w1.heap.size w1 wl by repeat (first | (with_reducible assumption) | (with_reducible exact Below.refl _ _) | (with_reducible apply below_alloc) | (with_reducible apply below_drewN) | (with_reducible apply Below.drew) | (with_reducible refine below_set ?_ (by dsimp only; omega) _) | (with_reducible refine below_trans ?_ (by assumption)))) x0; have g1 := cell_below (show Below w1.heap.size w1 wl by repeat (first | (with_reducible assumption) | (with_reducible exact Below.refl _ _) | (with_reducible apply below_alloc) | (with_reducible apply below_drewN) | (with_reducible apply Below.drew) | (with_reducible refine below_set ?_ (by dsimp only; omega) _) | (with_reducible refine below_trans ?_ (by assumption)))) x1; have g2 := cell_below (show Below w1.heap.size w1 wl by repeat (first | (with_reducible assumption) | (with_reducible exact Below.refl _ _) | (with_reducible apply below_alloc) | (with_reducible apply below_drewN) | (with_reducible apply Below.drew) | (with_reducible refine below_set ?_ (by dsimp only; omega) _) | (with_reducible refine below_trans ?_ (by assumption)))) x2; have g3 := cell_below (show Below w1.heap.size w1 wl by repeat (first | (with_reducible assumption) | (with_reducible exact Below.refl _ _) | (with_reducible apply below_alloc) | (with_reducible apply below_drewN) | (with_reducible apply Below.drew) | (with_reducible refine below_set ?_ (by dsimp only; omega) _) | (with_reducible refine below_trans ?_ (by assumption)))) x3; (first | (have nC := cell_below hbl nC; have ng : gn < wl.heap.size := cell_lt nC) | skip); have zW := zB.below (show Below w1.heap.size w1 wl by repeat (first | (with_reducible assumption) | (with_reducible exact Below.refl _ _) | (with_reducible apply below_alloc) | (with_reducible apply below_drewN) | (with_reducible apply Below.drew) | (with_reducible refine below_set ?_ (by dsimp only; omega) _) | (with_reducible refine below_trans ?_ (by assumption)))); have r0 := zW.cell (j := 0) rfl; have y0 := zW.frozen 0; have r1 := zW.cell (j := 1) rfl; have y1 := zW.frozen 1; have zl := zW.lt) | (go_at_call 18; refine (HQ.out _).mono ?_; rintro e wf ⟨FA, fc, rfl, fR, hbf⟩; (first | (have vB := (hvd _).below (by with_reducible exact hbf)) | (have vB := vB.below hbf) | skip); (first | (have nC := cell_below hbf nC; have ng : gn < wf.heap.size := cell_lt nC) | skip); have zW := zB.below (show Below w1.heap.size w1 wf by repeat (first | (with_reducible assumption) | (with_reducible exact Below.refl _ _) | (with_reducible apply below_alloc) | (with_reducible apply below_drewN) | (with_reducible apply Below.drew) | (with_reducible refine below_set ?_ (by dsimp only; omega) _) | (with_reducible refine below_trans ?_ (by assumption)))); have r0 := zW.cell (j := 0) rfl; have y0 := zW.frozen 0; have r1 := zW.cell (j := 1) rfl; have y1 := zW.frozen 1; have zl := zW.lt))
            refine hK.out _ _ ?_ (fun hHeld => ?_)
            · (try dsimp only); (first | (with_reducible exact ⟨x0, x1, x2, x3⟩) | (simp only [cell_farN hp, g0, g1, g2, g3, and_self]; done) | (refine ⟨cell_below (show Below w1.heap.size w1 _ from ?_) x0, cell_below (show Below w1.heap.size w1 _ from ?_) x1, cell_below (show Below w1.heap.size w1 _ from ?_) x2, cell_below (show Below w1.heap.size w1 _ from ?_) x3⟩ <;> ((repeat (first | (with_reducible assumption) | (with_reducible exact Below.refl _ _) | (with_reducible apply below_alloc) | (with_reducible apply below_drewN) | (with_reducible apply Below.drew) | (with_reducible refine below_set ?_ (by dsimp only; omega) _) | (with_reducible refine below_trans ?_ (by assumption)))); done)) | go_keep)
            clear hK K
            refine wpAnyH_ready (rs := [11]) (by kernel_rfl) (by simp) ?_
            refine AllReadyH.cons rfl (fun K hK => ?_) ?_
            · go_simp
              go_wp2_with (first | (go_at_call 17; refine (HN.out _).mono ?_; rintro e wn ⟨gn, rfl, nC, hbn⟩; have ng : gn < wn.heap.size := cell_lt nC; (first | (have vB := (hvd _).below (by with_reducible exact hbn)) | (have vB := vB.below hbn) | skip); have zW := zB.below (show Below w1.heap.size w1 wn by repeat (first | (with_reducible assumption) | (with_reducible exact Below.refl _ _) | (with_reducible apply below_alloc) | (with_reducible apply below_drewN) | (with_reducible apply Below.drew) | (with_reducible refine below_set ?_ (by dsimp only; omega) _) | (with_reducible refine below_trans ?_ (by assumption)))); have r0 := zW.cell (j := 0) rfl; have y0 := zW.frozen 0; have r1 := zW.cell (j := 1) rfl; have y1 := zW.frozen 1; have zl := zW.lt) | (go_at_call 16; (first | (with_reducible refine (H1.out _ _ _ ?_).mono ?_) | (with_reducible refine (H2.out _ _ _ ?_).mono ?_)); (first | exact fR | exact rdS_blkI (xs := [(V : Int)]) vB rfl (by simp) | exact rdS_blkI (xs := [(V : Int)]) (blk_alloc wn _ _) rfl (by simp)); rintro e wl ⟨rfl, hbl⟩; have g0 := cell_below (show Below w1.heap.size w1 wl by repeat (first | (with_reducible assumption) | (with_reducible exact Below.refl _ _) | (with_reducible apply below_alloc) | (with_reducible apply below_drewN) | (with_reducible apply Below.drew) | (with_reducible refine below_set ?_ (by dsimp only; omega) _) | (with_reducible refine below_trans ?_ (by assumption)))) x0; have g1 := cell_below (show Below w1.heap.size w1 wl by repeat (first | (with_reducible assumption) | (with_reducible exact Below.refl _ _) | (with_reducible apply below_alloc) | (with_reducible apply below_drewN) | (with_reducible apply Below.drew) | (with_reducible refine below_set ?_ (by dsimp only; omega) _) | (with_reducible refine below_trans ?_ (by assumption)))) x1; have g2 := cell_below (show Below w1.heap.size w1 wl by repeat (first | (with_reducible assumption) | (with_reducible exact Below.refl _ _) | (with_reducible apply below_alloc) | (with_reducible apply below_drewN) | (with_reducible apply Below.drew) | (with_reducible refine below_set ?_ (by dsimp only; omega) _) | (with_reducible refine below_trans ?_ (by assumption)))) x2; have g3 := cell_below (show Below w1.heap.size w1 wl by repeat (first | (with_reducible assumption) | (with_reducible exact Below.refl _ _) | (with_reducible apply below_alloc) | (with_reducible apply below_drewN) | (with_reducible apply Below.drew) | (with_reducible refine below_set ?_ (by dsimp only; omega) _) | (with_reducible refine below_trans ?_ (by assumption)))) x3; (first | (have nC := cell_below hbl nC; have ng : gn < wl.heap.size := cell_lt nC) | skip); have zW := zB.below (show Below w1.heap.size w1 wl by repeat (first | (with_reducible assumption) | (with_reducible exact Below.refl _ _) | (with_reducible apply below_alloc) | (with_reducible apply below_drewN) | (with_reducible apply Below.drew) | (with_reducible refine below_set ?_ (by dsimp only; omega) _) | (with_reducible refine below_trans ?_ (by assumption)))); have r0 := zW.cell (j := 0) rfl; have y0 := zW.frozen 0; have r1 := zW.cell (j := 1) rfl; have y1 := zW.frozen 1; have zl := zW.lt) | (go_at_call 18; refine (HQ.out _).mono ?_; rintro e wf ⟨FA, fc, rfl, fR, hbf⟩; (first | (have vB := (hvd _).below (by with_reducible exact hbf)) | (have vB := vB.below hbf) | skip); (first | (have nC := cell_below hbf nC; have ng : gn < wf.heap.size := cell_lt nC) | skip); have zW := zB.below (show Below w1.heap.size w1 wf by repeat (first | (with_reducible assumption) | (with_reducible exact Below.refl _ _) | (with_reducible apply below_alloc) | (with_reducible apply below_drewN) | (with_reducible apply Below.drew) | (with_reducible refine below_set ?_ (by dsimp only; omega) _) | (with_reducible refine below_trans ?_ (by assumption)))); have r0 := zW.cell (j := 0) rfl; have y0 := zW.frozen 0; have r1 := zW.cell (j := 1) rfl; have y1 := zW.frozen 1; have zl := zW.lt))
              refine hK.out _ _ ?_ (fun hHeld => ?_)
              · (try dsimp only); (first | (with_reducible exact ⟨x0, x1, x2, x3⟩) | (simp only [cell_farN hp, g0, g1, g2, g3, and_self]; done) | (refine ⟨cell_below (show Below w1.heap.size w1 _ from ?_) x0, cell_below (show Below w1.heap.size w1 _ from ?_) x1, cell_below (show Below w1.heap.size w1 _ from ?_) x2, cell_below (show Below w1.heap.size w1 _ from ?_) x3⟩ <;> ((repeat (first | (with_reducible assumption) | (with_reducible exact Below.refl _ _) | (with_reducible apply below_alloc) | (with_reducible apply below_drewN) | (with_reducible apply Below.drew) | (with_reducible refine below_set ?_ (by dsimp only; omega) _) | (with_reducible refine below_trans ?_ (by assumption)))); done)) | go_keep)
              clear hK K
              refine wpAnyH_take (i := 12) (oi := _) (v := ?_) rfl (by kernel_rfl) (by kernel_rfl) (by kernel_rfl) (fun _ _ _ h => h) (Or.inl ⟨by rfl, ?hy⟩) (by assumption) ?_
              case hy => ((intro w hSw; (try dsimp only at hSw); go_simp); (try with_reducible rfl))
              try simp only [Act.put, List.setIfInBounds_toArray, List.set_cons_zero, List.set_cons_succ]
              refine wpAnyH_ready (rs := [13]) (by kernel_rfl) (by simp) ?_
              refine AllReadyH.cons rfl (fun K hK => ?_) ?_
              · go_simp
                refine hK.out _ _ ?_ (fun hHeld => ?_)
                · (try dsimp only); (first | (with_reducible exact ⟨x0, x1, x2, x3⟩) | (simp only [cell_farN hp, g0, g1, g2, g3, and_self]; done) | (refine ⟨cell_below (show Below w1.heap.size w1 _ from ?_) x0, cell_below (show Below w1.heap.size w1 _ from ?_) x1, cell_below (show Below w1.heap.size w1 _ from ?_) x2, cell_below (show Below w1.heap.size w1 _ from ?_) x3⟩ <;> ((repeat (first | (with_reducible assumption) | (with_reducible exact Below.refl _ _) | (with_reducible apply below_alloc) | (with_reducible apply below_drewN) | (with_reducible apply Below.drew) | (with_reducible refine below_set ?_ (by dsimp only; omega) _) | (with_reducible refine below_trans ?_ (by assumption)))); done)) | go_keep)
                clear hK K
                refine wpAnyH_done (by kernel_rfl) ?_ _
                (go_wp2_with fail)
                exact bodyPost_ret (v := .agg #[.int .i64 0, .string tx]) (by simp [results, Tryz.results7, go_sem, r0, r1]) rfl ⟨by rw [HT.out], by repeat (first | (with_reducible assumption) | (with_reducible exact Below.refl _ _) | (with_reducible apply below_alloc) | (with_reducible apply below_drewN) | (with_reducible apply Below.drew) | (with_reducible refine below_set ?_ (by dsimp only; omega) _) | (with_reducible refine below_trans ?_ (by assumption)))⟩
              exact AllReadyH.nil
            exact AllReadyH.nil
          exact AllReadyH.nil
        exact AllReadyH.nil
      exact AllReadyH.nil
    exact AllReadyH.nil
  exact AllReadyH.nil
end Go.Proofs.YtfblopmploohkaaGreatDoor

/- The text of an operation: the program's OpText (written by gU4.py, own work). -/
set_option linter.unusedVariables false
set_option linter.unusedSimpArgs false
namespace Go.Proofs.YtfblopmploohkaaGreatDoor
open Go Go.RowKit Mk
theorem mk_toList (b : ByteArray) : (⟨b.data.toList.toArray⟩ : ByteArray) = b := rfl
theorem lineB_tail (wd : ByteArray) (ns : List Nat) : (lineB wd ns).data.toList = wd.data.toList ++ Lib.joinTail [32] (ns.map Lib.decDigits) := by
  induction ns generalizing wd with
  | nil => simp [lineB, Lib.joinTail]
  | cons n ns ih =>
    rw [lineB, ih]
    simp [Lib.joinTail, numS]
theorem lineB_join (wd : ByteArray) (ns : List Nat) : (⟨(Lib.join ((wd :: ns.map numS).map (·.data.toList)) [32]).toArray⟩ : ByteArray) = lineB wd ns := by
  rw [List.map_cons, Lib.join_cons, List.map_map, show ((fun b : ByteArray => b.data.toList) ∘ numS) = Lib.decDigits from funext fun n => rfl, ← lineB_tail]
theorem join_blk (wd : ByteArray) (ns : List Nat) (g : Nat) (W : World) (h : Blk W g 9 (.string wd :: ns.map (fun n => .string (numS n)))) (hw : wd.size ≤ 7) (hl : ns.length ≤ 4) (hn : ∀ n ∈ ns, n ≤ 1000) :
    Calls Tryz.prog 32 #[.slice (some ⟨g, 0, none⟩) (ns.length + 1) (ns.length + 1), .string ⟨#[32]⟩] W fun e w' => e = .returned (.string (lineB wd ns)) ∧ Below W.heap.size W w' := by
  have hs := line_size wd ns hn
  have hj := lineB_join wd ns
  have hlen : (wd :: ns.map numS).length = ns.length + 1 := by simp
  have H := Any.strings_Join joinL joinX g 0 (ns.length + 1) (wd :: ns.map numS) ⟨#[32]⟩ W (fun j x hx => by
      rw [Nat.zero_add]
      refine h.cell (j := j) ?_
      cases j with
      | zero => simp at hx ⊢; exact hx
      | succ j => simp at hx ⊢; obtain ⟨n, h1, h2⟩ := hx; exact ⟨n, h1, h2⟩) h.lt (by rw [hlen]; omega) (by rw [hlen]; exact Nat.le_refl _) (by
        have : (Lib.join ((wd :: ns.map numS).map (·.data.toList)) [32]).length = (lineB wd ns).size := by rw [← hj]; simp [ByteArray.size]
        show (Lib.join ((wd :: ns.map numS).map (·.data.toList)) [32]).length ≤ _
        omega)
  rw [hlen] at H
  refine Calls.mono H ?_
  rintro e w' ⟨he, hb⟩
  exact ⟨he.trans (congrArg (fun b => Ending.returned (.string b)) hj), hb⟩
theorem blk_alloc2 (w : World) (oa ob : Obj) (l : List Value) (e : TypeId) : Blk (((w.alloc oa).alloc ob).alloc (.cells l.toArray e)) (w.heap.size + 2) e l := by
  have h := blk_alloc1 (w.alloc oa) ob l e
  rwa [Deep.nblk_alloc] at h
set_option maxRecDepth 100000 in
set_option maxHeartbeats 4000000 in
theorem opText_c (o : SOp) (w : World) (h : opF o = 0) (htab : Lib.TabIs Tryz.prog w "internal/strconv.uint64pow10" .u64 Lib.pow10Tab) :
    Calls Tryz.prog 14 #[.agg #[.int .i64 o.Kind, .int .i64 o.Vol, .int .i64 o.At, .int .i64 o.Value]] w fun r w' => r = .returned (.string (textB o)) ∧ Below w.heap.size w w' := by
  obtain ⟨⟨k1, k6⟩, ⟨v1, v9⟩, ⟨a1, a2⟩, ⟨b1, b2⟩⟩ := opF_zero h
  obtain ⟨K, V, T, X⟩ := o
  dsimp only at k1 k6 v1 v9 a1 a2 b1 b2 ⊢
  obtain ⟨V, rfl⟩ := Int.eq_ofNat_of_zero_le (show 0 ≤ V by omega)
  obtain ⟨T, rfl⟩ := Int.eq_ofNat_of_zero_le (show 0 ≤ T by omega)
  obtain ⟨X, rfl⟩ := Int.eq_ofNat_of_zero_le (show 0 ≤ X by omega)
  have hV : V ≤ 1000 := by omega
  have hT : T ≤ 1000 := by omega
  have hX : X ≤ 1000 := by omega
  have hkk : K = 1 ∨ K = 2 ∨ K = 3 ∨ K = 4 ∨ K = 5 ∨ K = 6 := by omega
  clear h k1 k6 v1 v9 a1 a2 b1 b2
  have HV := Lib.hid (fun W => decimal_c V hV W)
  have HT := Lib.hid (fun W => decimal_c T hT W)
  have HX := Lib.hid (fun W => decimal_c X hX W)
  go_enter Tryz.func14, Tryz.ntmps14
  go_upto_region 1 with fail
  refine at_world (fun W => Blk W w.heap.size 25 [.int .i64 K, .int .i64 V, .int .i64 T, .int .i64 X] ∧ Below w.heap.size w W) ⟨blk_alloc w [.int .i64 K, .int .i64 V, .int .i64 T, .int .i64 X] _, below_alloc (Below.refl _ _) _⟩ ?_
  rintro w1 ⟨xB, b1⟩
  have x0 := xB.cell (j := 0) rfl
  have x1 := xB.cell (j := 1) rfl
  have x2 := xB.cell (j := 2) rfl
  have x3 := xB.cell (j := 3) rfl
  go_region_held3 (fun W => W.cell? ⟨w.heap.size, 1, none⟩ = some (.int .i64 (V : Int)) ∧ W.cell? ⟨w.heap.size, 2, none⟩ = some (.int .i64 (T : Int)) ∧ W.cell? ⟨w.heap.size, 3, none⟩ = some (.int .i64 (X : Int))) (first | (with_reducible exact ⟨x1, x2, x3⟩) | (refine ⟨cell_below (show Below w1.heap.size w1 _ from ?_) x1, cell_below (show Below w1.heap.size w1 _ from ?_) x2, cell_below (show Below w1.heap.size w1 _ from ?_) x3⟩ <;> ((repeat (first | (with_reducible assumption) | (with_reducible exact Below.refl _ _) | (with_reducible apply below_alloc) | (with_reducible apply below_drewN) | (with_reducible apply Below.drew) | (with_reducible refine below_set ?_ (by dsimp only; omega) _) | (with_reducible refine below_trans ?_ (by assumption)))); done)) | go_keep) (first | (go_at_call 31; (first | (with_reducible refine (HV.out _ (tab_below htab ?_)).mono ?_) | (with_reducible refine (HT.out _ (tab_below htab ?_)).mono ?_) | (with_reducible refine (HX.out _ (tab_below htab ?_)).mono ?_)); (focus ((repeat (first | (with_reducible assumption) | (with_reducible exact Below.refl _ _) | (with_reducible apply below_alloc) | (with_reducible apply below_drewN) | (with_reducible apply Below.drew) | (with_reducible refine below_set ?_ (by dsimp only; omega) _) | (with_reducible refine below_trans ?_ (by assumption)))); done)); rintro e wd ⟨rfl, hbd⟩))
  have x0 := cell_below (show Below w1.heap.size w1 wd by repeat (first | (with_reducible assumption) | (with_reducible exact Below.refl _ _) | (with_reducible apply below_alloc) | (with_reducible apply below_drewN) | (with_reducible apply Below.drew) | (with_reducible refine below_set ?_ (by dsimp only; omega) _) | (with_reducible refine below_trans ?_ (by assumption)))) x0
  have bw : Below w.heap.size w wd := by repeat (first | (with_reducible assumption) | (with_reducible exact Below.refl _ _) | (with_reducible apply below_alloc) | (with_reducible apply below_drewN) | (with_reducible apply Below.drew) | (with_reducible refine below_set ?_ (by dsimp only; omega) _) | (with_reducible refine below_trans ?_ (by assumption)))
  replace x0 := cell_below (below_alloc (Below.refl wd.heap.size wd) (.cells #[] 9)) x0
  clear HV HT HX htab x1 x2 x3 xB b1
  rcases hkk with rfl | rfl | rfl | rfl | rfl | rfl
  · go_wp2_with fail
    refine (join_blk (nameB 1) [V, X] _ _ ?_ (by decide) (by simp) (by simp [hV, hX])).mono ?_
    · (first | exact blk_alloc _ _ _ | exact blk_alloc1 _ _ _ _ | exact blk_alloc2 _ _ _ _ _)
    rintro e we ⟨rfl, hbe⟩
    go_wp2_with fail
    go_ret
    exact ⟨rfl, by repeat (first | (with_reducible assumption) | (with_reducible exact Below.refl _ _) | (with_reducible apply below_alloc) | (with_reducible apply below_drewN) | (with_reducible apply Below.drew) | (with_reducible refine below_set ?_ (by dsimp only; omega) _) | (with_reducible refine below_trans ?_ (by assumption)))⟩
  · go_wp2_with fail
    refine (join_blk (nameB 2) [V, T, X] _ _ ?_ (by decide) (by simp) (by simp [hV, hT, hX])).mono ?_
    · (first | exact blk_alloc _ _ _ | exact blk_alloc1 _ _ _ _ | exact blk_alloc2 _ _ _ _ _)
    rintro e we ⟨rfl, hbe⟩
    go_wp2_with fail
    go_ret
    exact ⟨rfl, by repeat (first | (with_reducible assumption) | (with_reducible exact Below.refl _ _) | (with_reducible apply below_alloc) | (with_reducible apply below_drewN) | (with_reducible apply Below.drew) | (with_reducible refine below_set ?_ (by dsimp only; omega) _) | (with_reducible refine below_trans ?_ (by assumption)))⟩
  · go_wp2_with fail
    refine (join_blk (nameB 3) [V, T] _ _ ?_ (by decide) (by simp) (by simp [hV, hT])).mono ?_
    · (first | exact blk_alloc _ _ _ | exact blk_alloc1 _ _ _ _ | exact blk_alloc2 _ _ _ _ _)
    rintro e we ⟨rfl, hbe⟩
    go_wp2_with fail
    go_ret
    exact ⟨rfl, by repeat (first | (with_reducible assumption) | (with_reducible exact Below.refl _ _) | (with_reducible apply below_alloc) | (with_reducible apply below_drewN) | (with_reducible apply Below.drew) | (with_reducible refine below_set ?_ (by dsimp only; omega) _) | (with_reducible refine below_trans ?_ (by assumption)))⟩
  · go_wp2_with fail
    refine (join_blk (nameB 4) [V, T] _ _ ?_ (by decide) (by simp) (by simp [hV, hT])).mono ?_
    · (first | exact blk_alloc _ _ _ | exact blk_alloc1 _ _ _ _ | exact blk_alloc2 _ _ _ _ _)
    rintro e we ⟨rfl, hbe⟩
    go_wp2_with fail
    go_ret
    exact ⟨rfl, by repeat (first | (with_reducible assumption) | (with_reducible exact Below.refl _ _) | (with_reducible apply below_alloc) | (with_reducible apply below_drewN) | (with_reducible apply Below.drew) | (with_reducible refine below_set ?_ (by dsimp only; omega) _) | (with_reducible refine below_trans ?_ (by assumption)))⟩
  · go_wp2_with fail
    refine (join_blk (nameB 5) [V, X] _ _ ?_ (by decide) (by simp) (by simp [hV, hX])).mono ?_
    · (first | exact blk_alloc _ _ _ | exact blk_alloc1 _ _ _ _ | exact blk_alloc2 _ _ _ _ _)
    rintro e we ⟨rfl, hbe⟩
    go_wp2_with fail
    go_ret
    exact ⟨rfl, by repeat (first | (with_reducible assumption) | (with_reducible exact Below.refl _ _) | (with_reducible apply below_alloc) | (with_reducible apply below_drewN) | (with_reducible apply Below.drew) | (with_reducible refine below_set ?_ (by dsimp only; omega) _) | (with_reducible refine below_trans ?_ (by assumption)))⟩
  · go_wp2_with fail
    refine (join_blk (nameB 6) [V] _ _ ?_ (by decide) (by simp) (by simp [hV])).mono ?_
    · (first | exact blk_alloc _ _ _ | exact blk_alloc1 _ _ _ _ | exact blk_alloc2 _ _ _ _ _)
    rintro e we ⟨rfl, hbe⟩
    go_wp2_with fail
    go_ret
    exact ⟨rfl, by repeat (first | (with_reducible assumption) | (with_reducible exact Below.refl _ _) | (with_reducible apply below_alloc) | (with_reducible apply below_drewN) | (with_reducible apply Below.drew) | (with_reducible refine below_set ?_ (by dsimp only; omega) _) | (with_reducible refine below_trans ?_ (by assumption)))⟩
end Go.Proofs.YtfblopmploohkaaGreatDoor

/- OpText: both tops and the law (written by gU5.py, own work). -/
set_option linter.unusedVariables false
set_option linter.unusedSimpArgs false
namespace Go.Proofs.YtfblopmploohkaaGreatDoor
open Go Go.RowKit Mk
set_option maxRecDepth 100000 in
set_option maxHeartbeats 4000000 in
theorem iOpText_bad (o : SOp) (w : World) (h : ¬ opF o = 0) :
    Calls Tryz.prog 6 #[.agg #[.int .i64 o.Kind, .int .i64 o.Vol, .int .i64 o.At, .int .i64 o.Value]] w fun r w' => r = .returned (.agg #[.int .i64 (opF o), .string ⟨#[]⟩]) ∧ Below w.heap.size w w' := by
  have he : ((opF o) != 0) = true := by simpa using h
  have HF := Lib.hid (fun W => opFault_c o W)
  generalize opF o = cd at HF he
  go_enter Tryz.func6, Tryz.ntmps6
  go_wp2_with fail
  refine (HF.out _).mono ?_
  rintro e w1 ⟨rfl, hb1⟩
  have zB := (blk_alloc1 w (.cells #[.int .i64 o.Kind, .int .i64 o.Vol, .int .i64 o.At, .int .i64 o.Value] 25) [.int .i64 0, .string ⟨#[]⟩] 28).below hb1
  have lz := zB.lt
  have r0 := zB.cell (j := 0) rfl
  have y0 := zB.frozen 0
  have r1 := zB.cell (j := 1) rfl
  have y1 := zB.frozen 1
  have bw : Below w.heap.size w w1 := by repeat (first | (with_reducible assumption) | (with_reducible exact Below.refl _ _) | (with_reducible apply below_alloc) | (with_reducible apply below_drewN) | (with_reducible apply Below.drew) | (with_reducible refine below_set ?_ (by dsimp only; omega) _) | (with_reducible refine below_trans ?_ (by assumption)))
  clear zB hb1
  go_wp2_with fail
  exact bodyPost_ret (v := .agg #[.int .i64 cd, .string ⟨#[]⟩]) (by simp [results, Tryz.results6, go_sem, r0, r1]) rfl ⟨rfl, by repeat (first | (with_reducible assumption) | (with_reducible exact Below.refl _ _) | (with_reducible apply below_alloc) | (with_reducible apply below_drewN) | (with_reducible apply Below.drew) | (with_reducible refine below_set ?_ (by dsimp only; omega) _) | (with_reducible refine below_trans ?_ (by assumption)))⟩
set_option maxRecDepth 100000 in
set_option maxHeartbeats 4000000 in
theorem iOpText_good (o : SOp) (w : World) (h : opF o = 0) (htab : Lib.TabIs Tryz.prog w "internal/strconv.uint64pow10" .u64 Lib.pow10Tab) :
    Calls Tryz.prog 6 #[.agg #[.int .i64 o.Kind, .int .i64 o.Vol, .int .i64 o.At, .int .i64 o.Value]] w fun r w' => r = .returned (.agg #[.int .i64 0, .string (textB o)]) ∧ Below w.heap.size w w' := by
  have HF := Lib.hid (fun W => opFault_c o W)
  rw [h] at HF
  have HT := Lib.hid (fun W hW => opText_c o W h hW)
  generalize textB o = tx at HT
  go_enter Tryz.func6, Tryz.ntmps6
  go_wp2_with fail
  refine (HF.out _).mono ?_
  rintro e w1 ⟨rfl, hb1⟩
  have xB := (blk_alloc w [.int .i64 o.Kind, .int .i64 o.Vol, .int .i64 o.At, .int .i64 o.Value] 25).below (below_trans (below_alloc (Below.refl _ _) (.cells #[.int .i64 0, .string ⟨#[]⟩] 28)) hb1)
  have zB := (blk_alloc1 w (.cells #[.int .i64 o.Kind, .int .i64 o.Vol, .int .i64 o.At, .int .i64 o.Value] 25) [.int .i64 0, .string ⟨#[]⟩] 28).below hb1
  have bw : Below w.heap.size w w1 := by repeat (first | (with_reducible assumption) | (with_reducible exact Below.refl _ _) | (with_reducible apply below_alloc) | (with_reducible apply below_drewN) | (with_reducible apply Below.drew) | (with_reducible refine below_set ?_ (by dsimp only; omega) _) | (with_reducible refine below_trans ?_ (by assumption)))
  clear hb1
  have x0 := xB.cell (j := 0) rfl
  have x1 := xB.cell (j := 1) rfl
  have x2 := xB.cell (j := 2) rfl
  have x3 := xB.cell (j := 3) rfl
  go_wp2_with fail
  refine (HT.out _ (tab_below htab ?_)).mono ?_
  · repeat (first | (with_reducible assumption) | (with_reducible exact Below.refl _ _) | (with_reducible apply below_alloc) | (with_reducible apply below_drewN) | (with_reducible apply Below.drew) | (with_reducible refine below_set ?_ (by dsimp only; omega) _) | (with_reducible refine below_trans ?_ (by assumption)))
  rintro e w2 ⟨rfl, hb2⟩
  replace zB := zB.below hb2
  have lz := zB.lt
  have r0 := zB.cell (j := 0) rfl
  have y0 := zB.frozen 0
  have r1 := zB.cell (j := 1) rfl
  have y1 := zB.frozen 1
  replace bw := below_trans bw hb2
  clear zB hb2 x0 x1 x2 x3 xB
  go_wp2_with fail
  exact bodyPost_ret (v := .agg #[.int .i64 0, .string tx]) (by simp [results, Tryz.results6, go_sem, r0, r1]) rfl ⟨rfl, by repeat (first | (with_reducible assumption) | (with_reducible exact Below.refl _ _) | (with_reducible apply below_alloc) | (with_reducible apply below_drewN) | (with_reducible apply Below.drew) | (with_reducible refine below_set ?_ (by dsimp only; omega) _) | (with_reducible refine below_trans ?_ (by assumption)))⟩
theorem sOpText_c (o : SOp) (w : World) : Calls Tryz.prog 7 #[.agg #[.int .i64 o.Kind, .int .i64 o.Vol, .int .i64 o.At, .int .i64 o.Value]] w fun r w' => r = .returned (.agg #[.int .i64 (opX o).1, .string (opX o).2]) ∧ Below w.heap.size w w' := by
  by_cases h : opF o = 0
  · rw [show opX o = (0, textB o) by unfold opX; rw [if_pos h]]; exact sOpText_good o w h
  · rw [show opX o = (opF o, ⟨#[]⟩) by unfold opX; rw [if_neg h]]; exact sOpText_bad o w h
theorem iOpText_c (o : SOp) (w : World) (htab : Lib.TabIs Tryz.prog w "internal/strconv.uint64pow10" .u64 Lib.pow10Tab) : Calls Tryz.prog 6 #[.agg #[.int .i64 o.Kind, .int .i64 o.Vol, .int .i64 o.At, .int .i64 o.Value]] w fun r w' => r = .returned (.agg #[.int .i64 (opX o).1, .string (opX o).2]) ∧ Below w.heap.size w w' := by
  by_cases h : opF o = 0
  · rw [show opX o = (0, textB o) by unfold opX; rw [if_pos h]]; exact iOpText_good o w h htab
  · rw [show opX o = (opF o, ⟨#[]⟩) by unfold opX; rw [if_neg h]]; exact iOpText_bad o w h
end Go.Proofs.YtfblopmploohkaaGreatDoor
