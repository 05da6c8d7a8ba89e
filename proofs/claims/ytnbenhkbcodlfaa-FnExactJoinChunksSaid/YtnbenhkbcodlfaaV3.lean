/- JoinChunks: the program's and the reference's (own work). -/
import Derived.Test.YtnbenhkbcodlfaaV2
set_option linter.unusedVariables false
set_option linter.unusedSimpArgs false
namespace Go.Proofs.Ytnbenhkbcodlfaa
open Go Go.RowKit Mk
theorem badRow_tells (xs : List (List Int)) (w : World) (hx : ∀ x ∈ xs, x.length ≤ 9223372036854775807) : Tells kRow 28 #[] badRow w xs one := by
  intro k hk W cs hb hr
  obtain ⟨A, c, rfl, hh⟩ := hr
  have := badRow_c xs[k] A c W (hx _ (List.getElem_mem hk))
  simpa [one] using this
theorem row_le {xs : List (List Int)} (h : totL List.length xs ≤ 1048576) : ∀ x ∈ xs, x.length ≤ 1048576 := by
  intro x hx
  obtain ⟨k, hk, rfl⟩ := List.getElem_of_mem hx
  have t1 := totL_take List.length xs k hk
  have t2 := totL_le List.length xs (k + 1)
  unfold totL at h
  omega
set_option maxRecDepth 100000 in
set_option maxHeartbeats 4000000 in
theorem iJoin_c (xs : List (List Int)) (A : Option Addr) (c : Nat) (w : World) (h : RdS kRow w A c xs) (hN : totL List.length xs ≤ 1048576) :
    Calls Try.prog 8 #[.slice A xs.length c] w fun r w' => LaidIR (joinX xs) w r w' := by
  have hln := h.le63
  have hS : sumL xs ≤ 1048576 := by unfold totL at hN; unfold sumL; omega
  have hrow := row_le hN
  go_enter Try.func8, Try.ntmps8
  go_upto_region 1 with fail
  refine at_world (fun W => Blk W w.heap.size 26 [.int .i64 0, .slice none 0 0] ∧ Below w.heap.size w W) ⟨blk_alloc w [.int .i64 0, .slice none 0 0] _, below_alloc (Below.refl _ _) _⟩ ?_
  rintro W1 ⟨zB, b1⟩
  have h1 := h.below b1
  have lz := zB.lt
  have r0 := zB.cell (j := 0) rfl
  have y0 := zB.frozen 0
  have r1 := zB.cell (j := 1) rfl
  have y1 := zB.frozen 1
  by_cases hB : 300 < sumL xs
  · have HX := Lib.hid (show joinX xs = ⟨2, []⟩ by unfold joinX; rw [if_pos (.inr hB)])
    go_wp2_with fail
    go_loopw [3, 8] (fun q i W => ∃ k : Nat, k ≤ xs.length ∧ i = .int .i64 k ∧ q = .int .i64 (sumL (xs.take k)) ∧ sumL (xs.take k) ≤ 300 ∧ W = W1) (fun _ i _ => xs.length - (intOf i).toNat)
    case atStart => exact ⟨0, Nat.zero_le _, rfl, rfl, by simp [sumL], rfl⟩
    case round =>
      obtain ⟨k, hk, rfl, rfl, hle, rfl⟩ := hrel
      by_cases hlt : k < xs.length
      · have hlt' : (k : Int) < (xs.length : Int) := by omega
        have hst := sumL_take xs k hlt
        have hxl := hrow _ (List.getElem_mem hlt)
        obtain ⟨a, ea, hx⟩ := h1.at_ hlt
        subst ea
        simp only [show kRow.sz = 1 from rfl, Nat.mul_one] at hx
        generalize xs[k] = x at hx hst hxl
        obtain ⟨X, y, f0, hq⟩ := atRow hx
        clear hx hq h h1 hrow
        have HST := Lib.hid hst
        clear hst
        by_cases hbig : 300 < sumL (xs.take k) + x.length
        · have hd : decide ((300 : Int) < (sumL (xs.take k) : Int) + (x.length : Int)) = true := decide_eq_true (by omega)
          by_cases hl3 : 300 < xs.length
          · have hd2 : decide ((300 : Int) < (xs.length : Int)) = true := decide_eq_true (by omega)
            go_wp2_with fail
            exact bodyPost_ret (v := .agg #[.int .i64 2, .slice none 0 0]) (by simp [results, Try.results8, go_sem, r0, r1]) rfl (by rw [HX.out]; exact LaidIR.bad _ (by repeat (first | (with_reducible assumption) | (with_reducible exact Below.refl _ _) | (with_reducible apply below_alloc) | (with_reducible apply below_drewN) | (with_reducible apply Below.drew) | (with_reducible refine below_set ?_ (by dsimp only; omega) _) | (with_reducible refine below_trans ?_ (by assumption)))))
          · have hd2 : decide ((300 : Int) < (xs.length : Int)) = false := decide_eq_false (by omega)
            go_wp2_with fail
            exact bodyPost_ret (v := .agg #[.int .i64 2, .slice none 0 0]) (by simp [results, Try.results8, go_sem, r0, r1]) rfl (by rw [HX.out]; exact LaidIR.bad _ (by repeat (first | (with_reducible assumption) | (with_reducible exact Below.refl _ _) | (with_reducible apply below_alloc) | (with_reducible apply below_drewN) | (with_reducible apply Below.drew) | (with_reducible refine below_set ?_ (by dsimp only; omega) _) | (with_reducible refine below_trans ?_ (by assumption)))))
        · have hd : decide ((300 : Int) < (sumL (xs.take k) : Int) + (x.length : Int)) = false := decide_eq_false (by omega)
          go_wp2_with fail
          exact ⟨⟨k + 1, hlt, by go_num, by rw [HST.out]; simp, by rw [HST.out]; omega, by first | rfl | trivial⟩, by simp [intOf]; omega⟩
      · exfalso
        rw [List.take_of_length_le (by omega)] at hle
        omega
  · go_wp2_with fail
    go_loopw [3, 8] (fun q i W => ∃ k : Nat, k ≤ xs.length ∧ i = .int .i64 k ∧ q = .int .i64 (sumL (xs.take k)) ∧ W = W1) (fun _ i _ => xs.length - (intOf i).toNat)
    case atStart => exact ⟨0, Nat.zero_le _, rfl, rfl, rfl⟩
    case round =>
      obtain ⟨k, hk, rfl, rfl, rfl⟩ := hrel
      by_cases hlt : k < xs.length
      · have hlt' : (k : Int) < (xs.length : Int) := by omega
        have hst := sumL_take xs k hlt
        have hsl := sumL_le xs (k + 1)
        obtain ⟨a, ea, hx⟩ := h1.at_ hlt
        subst ea
        simp only [show kRow.sz = 1 from rfl, Nat.mul_one] at hx
        generalize xs[k] = x at hx hst
        obtain ⟨X, y, f0, hq⟩ := atRow hx
        have hd : decide ((300 : Int) < (sumL (xs.take k) : Int) + (x.length : Int)) = false := decide_eq_false (by omega)
        have hbd : sumL (xs.take k) + x.length ≤ 300 := by omega
        clear hx hq h h1 hrow hsl
        have HST := Lib.hid hst
        clear hst
        go_wp2_with fail
        exact ⟨⟨k + 1, hlt, by go_num, by rw [HST.out]; simp, by first | rfl | trivial⟩, by simp [intOf]; omega⟩
      · have hk' : k = xs.length := by omega
        subst hk'
        rw [List.take_length]
        have hdS : decide ((300 : Int) < (sumL xs : Int)) = false := decide_eq_false (by omega)
        by_cases hl3 : 300 < xs.length
        · have hd2 : decide ((300 : Int) < (xs.length : Int)) = true := decide_eq_true (by omega)
          have HX := Lib.hid (show joinX xs = ⟨2, []⟩ by unfold joinX; rw [if_pos (.inl hl3)])
          go_wp2_with fail
          exact bodyPost_ret (v := .agg #[.int .i64 2, .slice none 0 0]) (by simp [results, Try.results8, go_sem, r0, r1]) rfl (by rw [HX.out]; exact LaidIR.bad _ (by repeat (first | (with_reducible assumption) | (with_reducible exact Below.refl _ _) | (with_reducible apply below_alloc) | (with_reducible apply below_drewN) | (with_reducible apply Below.drew) | (with_reducible refine below_set ?_ (by dsimp only; omega) _) | (with_reducible refine below_trans ?_ (by assumption)))))
        · have hd2 : decide ((300 : Int) < (xs.length : Int)) = false := decide_eq_false (by omega)
          have hno : ¬ (300 < xs.length ∨ 300 < sumL xs) := fun h => h.elim hl3 hB
          have HC := Lib.hid (containsFunc_row 28 #[] (Go.Proofs.enters_of Try.func28 (by kernel_rfl) rfl) badRow xs A c wr h1 (badRow_tells xs wr (fun x hx => by have := hrow x hx; omega)))
          cases hany : xs.any badRow with
          | true =>
            have HX := Lib.hid (show joinX xs = ⟨1, []⟩ by unfold joinX; rw [if_neg hno, hany, if_pos rfl])
            rw [hany] at HC
            clear h h1 hrow
            go_wp2_with fail
            refine HC.out.mono ?_
            rintro e w2 ⟨rfl, hb2⟩
            have zB2 := zB.below hb2
            have r0 := zB2.cell (j := 0) rfl
            have y0 := zB2.frozen 0
            have r1 := zB2.cell (j := 1) rfl
            have y1 := zB2.frozen 1
            go_wp2_with fail
            exact bodyPost_ret (v := .agg #[.int .i64 1, .slice none 0 0]) (by simp [results, Try.results8, go_sem, r0, r1]) rfl (by rw [HX.out]; exact LaidIR.bad _ (by repeat (first | (with_reducible assumption) | (with_reducible exact Below.refl _ _) | (with_reducible apply below_alloc) | (with_reducible apply below_drewN) | (with_reducible apply Below.drew) | (with_reducible refine below_set ?_ (by dsimp only; omega) _) | (with_reducible refine below_trans ?_ (by assumption)))))
          | false =>
            have HX := Lib.hid (show joinX xs = ⟨0, xs.flatten⟩ by unfold joinX; rw [if_neg hno, hany, if_neg (by simp)])
            rw [hany] at HC
            go_wp2_with fail
            refine HC.out.mono ?_
            rintro e w2 ⟨rfl, hb2⟩
            go_wp2_with fail
            refine (concat_c xs A c w2 (h1.below hb2) (by omega)).mono ?_
            rintro e w3 ⟨G, y, f, rfl, ow, nd, hb3⟩
            have b13 := below_trans hb2 hb3
            have zB3 := zB.below b13
            have l2 := hb2.size
            clear r0 y0 r1 y1
            have r0 := zB3.cell (j := 0) rfl
            have y0 := zB3.frozen 0
            have r1 := zB3.cell (j := 1) rfl
            have y1 := zB3.frozen 1
            clear h h1 hrow HC zB3 zB
            go_wp2_with fail
            refine bodyPost_ret (v := .agg #[.int .i64 0, .slice G xs.flatten.length y]) (by simp [results, Try.results8, go_sem, r0, r1]) rfl (HX.out.symm ▸ ⟨G, y, f, rfl, ?_, nd, by repeat (first | (with_reducible assumption) | (with_reducible exact Below.refl _ _) | (with_reducible apply below_alloc) | (with_reducible apply below_drewN) | (with_reducible apply Below.drew) | (with_reducible refine below_set ?_ (by dsimp only; omega) _) | (with_reducible refine below_trans ?_ (by assumption)))⟩)
            refine OwnS.past (lo := w2.heap.size) (w := w3) ow ?_ (Nat.le_refl _) (by have := b1.size; omega)
            repeat (first | (with_reducible exact Past.refl _ _) | (with_reducible refine Past.set ?_ (by omega) _))
end Go.Proofs.Ytnbenhkbcodlfaa
