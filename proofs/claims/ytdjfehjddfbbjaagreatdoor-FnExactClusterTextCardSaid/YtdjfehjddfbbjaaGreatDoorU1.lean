/- Decimal numerals on both sides; a line of a word and numbers (own work). -/
import Derived.Test.YtdjfehjddfbbjaaGreatDoorT1
import Derived.Test.YtdjfehjddfbbjaaGreatDoorJn
set_option linter.unusedVariables false
set_option linter.unusedSimpArgs false
namespace Go.Proofs.YtdjfehjddfbbjaaGreatDoor
open Go Go.RowKit Mk
theorem below_grow (w : World) (q : Nat) (os : Array Obj) : Below w.heap.size w (Sort.grow (w.drewN q) os) :=
  ⟨rfl, rfl, rfl, by simp [Sort.grow], fun i hi => by
    show ((w.drewN q).heap ++ os)[i]? = _
    rw [Array.getElem?_append_left (by show i < w.heap.size; omega)]
    rfl⟩
theorem tab_below {w w' : World} {zs : List Int} (h : Lib.TabIs Tryz.prog w "internal/strconv.uint64pow10" .u64 zs) (hb : Below w.heap.size w w') : Lib.TabIs Tryz.prog w' "internal/strconv.uint64pow10" .u64 zs := by
  unfold Lib.TabIs World.var? at h ⊢
  obtain ⟨g, hg⟩ : ∃ g, (Tryz.prog).globalNamed "internal/strconv.uint64pow10" = some g := by
    cases h0 : (Tryz.prog).globalNamed "internal/strconv.uint64pow10" with
    | none => rw [h0] at h; simp at h
    | some g => exact ⟨g, rfl⟩
  simp only [hg, Option.bind_some] at h ⊢
  have hlt : g < w.heap.size := by
    rcases Nat.lt_or_ge g w.heap.size with h' | h'
    · exact h'
    · rw [Array.getElem?_eq_none h'] at h; simp at h
  rw [hb.block g hlt]
  exact h
theorem joinX : Builder.Extra Tryz.prog joinL_ren := { sizeBuilder := by kernel_rfl, liesBuilder := by kernel_rfl, t5 := Tryz.underlying5, a5 := Tryz.isAgg5, z5 := Tryz.sizeOf5, v5 := Tryz.zeroValue5, infoByte := by kernel_rfl, cellsByte := by kernel_rfl, sizeByte := by kernel_rfl, neB5 := by decide }
/-- A numeral. -/
def numS (n : Nat) : ByteArray := ⟨(Lib.decDigits n).toArray⟩
theorem dec_small {n : Nat} (h : n < 10) : Lib.decDigits n = [UInt8.ofNat (48 + n)] := by rw [Lib.decDigits, dif_pos h]
theorem dec_big {n : Nat} (h : ¬ n < 10) : Lib.decDigits n = Lib.decDigits (n / 10) ++ [UInt8.ofNat (48 + n % 10)] := by rw [Lib.decDigits, dif_neg h]
theorem dec_len : ∀ n, (Lib.decDigits n).length ≤ n + 1 := by
  intro n
  induction n using Nat.strongRecOn with
  | _ n ih =>
    by_cases h : n < 10
    · rw [dec_small h]; simp
    · rw [dec_big h]
      have := ih (n / 10) (by omega)
      simp
      omega
theorem numS_size (n : Nat) : (numS n).size = (Lib.decDigits n).length := by simp [numS, ByteArray.size]
theorem mk_append (a b : List UInt8) : (⟨a.toArray⟩ : ByteArray) ++ ⟨b.toArray⟩ = ⟨(a ++ b).toArray⟩ := by
  apply ByteArray.ext
  simp
theorem decimal_c (n : Nat) (hn : n ≤ 1000) (w : World) (htab : Lib.TabIs Tryz.prog w "internal/strconv.uint64pow10" .u64 Lib.pow10Tab) :
    Calls Tryz.prog 38 #[.int .i64 n] w fun e w' => e = .returned (.string (numS n)) ∧ Below w.heap.size w w' := by
  have hF := Any.strconv_FormatInt_10 fmtL (n : Int) (by omega) (by omega) w htab
  rw [show Lib.itoa (n : Int) = Lib.decDigits n by unfold Lib.itoa; rw [if_neg (by omega)]; rfl] at hF
  have HF := Lib.hid hF
  go_enter Tryz.func38, Tryz.ntmps38
  go_wp2_with fail
  refine (HF.out).mono ?_
  rintro e w1 ⟨rfl, k, os, rfl⟩
  go_wp2_with fail
  go_ret
  exact ⟨rfl, below_grow _ _ _⟩
theorem convB (W : World) (g : Nat) (x : Int) (h : Blk W g 5 [.int .u8 x]) : Sem.run Tryz.prog (convert 125 9 (.slice (some ⟨g, 0, none⟩) 1 1)) W = .ok (.string (ByteArray.empty.push (UInt8.ofNat x.toNat))) W := by
  rw [run_convert_bytes_string W 125 9 5 (some ⟨g, 0, none⟩) 1 1 (by kernel_rfl) (by kernel_rfl) (by kernel_rfl)]
  have hl : Lies W ⟨g, 0, none⟩ [.int .u8 x] := Blk.liesMid (c1 := []) (c2 := []) (by simpa using h) rfl
  exact run_bytesToString W ⟨g, 0, none⟩ 1 1 [x] (hl.load Tryz.prog 1 rfl)
set_option maxRecDepth 100000 in
set_option maxHeartbeats 1000000 in
theorem l6Digits_c : ∀ (n : Nat) (hn : n ≤ 1000) (w : World), Calls Tryz.prog 53 #[.int .i64 n] w fun e w' => e = .returned (.string (numS n)) ∧ Below w.heap.size w w' := by
  intro n
  induction n using Nat.strongRecOn with
  | _ n ih =>
    intro hn w
    by_cases h : n < 10
    · have hd : decide ((n : Int) < 10) = true := decide_eq_true (by omega)
      have hcv := conv1
      have hN := Lib.hid (show numS n = ByteArray.empty.push (UInt8.ofNat (48 + n)) by unfold numS; rw [dec_small h]; rfl)
      clear ih
      go_enter Tryz.func53, Tryz.ntmps53
      go_wp2_with fail
      go_ret
      exact ⟨by rw [hN.out]; rfl, by repeat (first | (with_reducible assumption) | (with_reducible exact Below.refl _ _) | (with_reducible apply below_alloc) | (with_reducible apply below_drewN) | (with_reducible apply Below.drew) | (with_reducible refine below_set ?_ (by dsimp only; omega) _) | (with_reducible refine below_trans ?_ (by assumption)))⟩
    · have hd : decide ((n : Int) < 10) = false := decide_eq_false (by omega)
      have ih2 := ih (n / 10) (by omega) (by omega)
      rw [show ((n / 10 : Nat) : Int) = (n : Int) / 10 by simp] at ih2
      have IH := Lib.hid ih2
      have hsz := dec_len (n / 10)
      have hq := numS_size (n / 10)
      have hN := Lib.hid (show numS n = numS (n / 10) ++ ⟨#[48 + UInt8.ofNat (n % 10)]⟩ by unfold numS; rw [dec_big h, ← mk_append, UInt8.ofNat_add]; rfl)
      generalize numS (n / 10) = D at IH hN hq ih2
      have hs1 : D.size ≤ 1001 := by omega
      clear ih ih2 hsz hq
      go_enter Tryz.func53, Tryz.ntmps53
      go_wp2_with fail
      have hcv := conv1
      have hbd : ∀ x : Int, Blk (w.alloc (.cells #[.int .u8 x] 5)).drew w.heap.size 5 [.int .u8 x] := fun x => Blk.keep (blk_alloc w [.int .u8 x] 5) rfl
      have hcd := fun x : Int => convB _ _ x (hbd x)
      have hw10 : IntKind.i64.wrap ((n : Int) / 10) = (n : Int) / 10 := by rw [IntKind.wrap_i64]; omega
      have hwx : IntKind.u8.wrap (IntKind.i64.wrap (48 + (n : Int).tmod 10)) = ((48 + n % 10 : Nat) : Int) := by
        have h1 : (n : Int).tmod 10 = ((n % 10 : Nat) : Int) := by rw [Int.tmod_eq_emod_of_nonneg (by omega)]; simp
        have h2 : IntKind.i64.wrap (48 + (n : Int).tmod 10) = ((48 + n % 10 : Nat) : Int) := by rw [h1, IntKind.wrap_i64]; omega
        rw [h2]
        unfold IntKind.wrap
        simp only [show IntKind.u8.bits = 8 from rfl, show IntKind.u8.signed = false from rfl, Bool.false_and, Bool.false_eq_true, if_false]
        omega
      go_region_with (go_at_call 53; (try rw [hw10]); refine (IH.out _).mono ?_; rintro e w1 ⟨rfl, hb1⟩; (first | (have kk := (hbd (48 + (n : Int) % 10)).below (by with_reducible exact hb1); have hcw := convB w1 w.heap.size _ kk) | skip))
      all_goals (go_wp2_with fail)
      all_goals (go_ret)
      all_goals (exact ⟨by rw [hN.out]; rfl, by repeat (first | (with_reducible assumption) | (with_reducible exact Below.refl _ _) | (with_reducible apply below_alloc) | (with_reducible apply below_drewN) | (with_reducible apply Below.drew) | (with_reducible refine below_set ?_ (by dsimp only; omega) _) | (with_reducible refine below_trans ?_ (by assumption)))⟩)
end Go.Proofs.YtdjfehjddfbbjaaGreatDoor
