/- The reference's JoinChunks (own work). -/
import Derived.Test.YtnbenhkbcodlfaaV3
set_option linter.unusedVariables false
set_option linter.unusedSimpArgs false
namespace Go.Proofs.Ytnbenhkbcodlfaa
open Go Go.RowKit Mk
theorem badRow_zero {x : List Int} (h : x.length = 0) : badRow x = true := by
  unfold badRow wi; rw [decide_eq_false (show ¬ (1 : Int) ≤ (x.length : Int) by omega)]; rfl
theorem badRow_big {x : List Int} (h : 20 < x.length) : badRow x = true := by
  unfold badRow wi; rw [decide_eq_false (show ¬ (x.length : Int) ≤ 20 by omega)]; simp
theorem badRow_good {x : List Int} (h : ¬ x.length = 0) (h2 : ¬ 20 < x.length) : badRow x = false := by
  unfold badRow wi; rw [decide_eq_true (show (1 : Int) ≤ (x.length : Int) by omega), decide_eq_true (show (x.length : Int) ≤ 20 by omega)]; rfl
theorem any_at {xs : List (List Int)} {k : Nat} (hk : k < xs.length) (h : badRow xs[k] = true) : xs.any badRow = true := List.any_eq_true.2 ⟨_, List.getElem_mem hk, h⟩
set_option maxRecDepth 100000 in
set_option maxHeartbeats 4000000 in
theorem sJoin_c (xs : List (List Int)) (A : Option Addr) (c : Nat) (w : World) (h : RdS kRow w A c xs) (hN : totL List.length xs ≤ 1048576) :
    Calls Try.prog 6 #[.slice A xs.length c] w fun r w' => LaidIR (joinX xs) w r w' := by
  have hln := h.le63
  have hS : sumL xs ≤ 1048576 := by unfold totL at hN; unfold sumL; omega
  have hrow := row_le hN
  go_enter Try.func6, Try.ntmps6
  go_upto_region 1 with fail
  refine at_world (fun W => Blk W w.heap.size 26 [.int .i64 0, .slice none 0 0] ∧ Below w.heap.size w W) ⟨blk_alloc w [.int .i64 0, .slice none 0 0] _, below_alloc (Below.refl _ _) _⟩ ?_
  rintro W1 ⟨zB, b1⟩
  have h1 := h.below b1
  have lz := zB.lt
  have r0 := zB.cell (j := 0) rfl
  have y0 := zB.frozen 0
  have r1 := zB.cell (j := 1) rfl
  have y1 := zB.frozen 1
  by_cases hl3 : 300 < xs.length
  · have HX := Lib.hid (show joinX xs = ⟨2, []⟩ by unfold joinX; rw [if_pos (.inl hl3)])
    have hd2 : decide ((300 : Int) < (xs.length : Int)) = true := decide_eq_true (by omega)
    go_wp2_with fail
    exact bodyPost_ret (v := .agg #[.int .i64 2, .slice none 0 0]) (by simp [results, Try.results6, go_sem, r0, r1]) rfl (by rw [HX.out]; exact LaidIR.bad _ (by repeat (first | (with_reducible assumption) | (with_reducible exact Below.refl _ _) | (with_reducible apply below_alloc) | (with_reducible apply below_drewN) | (with_reducible apply Below.drew) | (with_reducible refine below_set ?_ (by dsimp only; omega) _) | (with_reducible refine below_trans ?_ (by assumption)))))
  have hd2 : decide ((300 : Int) < (xs.length : Int)) = false := decide_eq_false (by omega)
  have hl4 : (xs.length : Int) ≤ 300 := by omega
  by_cases hB : 300 < sumL xs
  · have HX := Lib.hid (show joinX xs = ⟨2, []⟩ by unfold joinX; rw [if_pos (.inr hB)])
    go_wp2_with fail
    go_loopw [3, 4] (fun q i W => ∃ k : Nat, k ≤ xs.length ∧ i = .int .i64 k ∧ q = .int .i64 (sumL (xs.take k)) ∧ sumL (xs.take k) ≤ 300 ∧ W = W1) (fun _ i _ => xs.length - (intOf i).toNat)
    case atStart => exact ⟨0, Nat.zero_le _, rfl, rfl, by simp [sumL], rfl⟩
    case round =>
      obtain ⟨k, hk, rfl, rfl, hle, rfl⟩ := hrel
      by_cases hlt : k < xs.length
      · have hlt' : (k : Int) < (xs.length : Int) := by omega
        have hst := sumL_take xs k hlt
        have hxl := hrow _ (List.getElem_mem hlt)
        obtain ⟨a, ea, hx⟩ := h1.at_ hlt
        subst ea
        simp only [show kRow.sz = 1 from rfl, Nat.mul_one] at hx
        generalize xs[k] = x at hx hst hxl
        obtain ⟨X, y, f0, hq⟩ := atRow hx
        clear hx hq h h1 hrow
        have HST := Lib.hid hst
        clear hst
        by_cases hbig : 300 < sumL (xs.take k) + x.length
        · have hd : decide ((300 : Int) < (sumL (xs.take k) : Int) + (x.length : Int)) = true := decide_eq_true (by omega)
          go_wp2_with fail
          exact bodyPost_ret (v := .agg #[.int .i64 2, .slice none 0 0]) (by simp [results, Try.results6, go_sem, r0, r1]) rfl (by rw [HX.out]; exact LaidIR.bad _ (by repeat (first | (with_reducible assumption) | (with_reducible exact Below.refl _ _) | (with_reducible apply below_alloc) | (with_reducible apply below_drewN) | (with_reducible apply Below.drew) | (with_reducible refine below_set ?_ (by dsimp only; omega) _) | (with_reducible refine below_trans ?_ (by assumption)))))
        · have hd : decide ((300 : Int) < (sumL (xs.take k) : Int) + (x.length : Int)) = false := decide_eq_false (by omega)
          go_wp2_with fail
          exact ⟨⟨k + 1, hlt, by go_num, by rw [HST.out]; simp, by rw [HST.out]; omega, by first | rfl | trivial⟩, by simp [intOf]; omega⟩
      · exfalso
        rw [List.take_of_length_le (by omega)] at hle
        omega
  · have hno : ¬ (300 < xs.length ∨ 300 < sumL xs) := fun h => h.elim hl3 hB
    go_wp2_with fail
    go_loopw [3, 4] (fun q i W => ∃ k : Nat, k ≤ xs.length ∧ i = .int .i64 k ∧ q = .int .i64 (sumL (xs.take k)) ∧ W = W1) (fun _ i _ => xs.length - (intOf i).toNat)
    case atStart => exact ⟨0, Nat.zero_le _, rfl, rfl, rfl⟩
    case round =>
      obtain ⟨k, hk, rfl, rfl, rfl⟩ := hrel
      by_cases hlt : k < xs.length
      · have hlt' : (k : Int) < (xs.length : Int) := by omega
        have hst := sumL_take xs k hlt
        have hsl := sumL_le xs (k + 1)
        obtain ⟨a, ea, hx⟩ := h1.at_ hlt
        subst ea
        simp only [show kRow.sz = 1 from rfl, Nat.mul_one] at hx
        generalize xs[k] = x at hx hst
        obtain ⟨X, y, f0, hq⟩ := atRow hx
        have hd : decide ((300 : Int) < (sumL (xs.take k) : Int) + (x.length : Int)) = false := decide_eq_false (by omega)
        have hbd : sumL (xs.take k) + x.length ≤ 300 := by omega
        clear hx hq h h1 hrow hsl
        have HST := Lib.hid hst
        clear hst
        go_wp2_with fail
        exact ⟨⟨k + 1, hlt, by go_num, by rw [HST.out]; simp, by first | rfl | trivial⟩, by simp [intOf]; omega⟩
      · have hk' : k = xs.length := by omega
        subst hk'
        rw [List.take_length]
        go_upto_region 11 with fail
        refine at_world (fun W => Blk W wr.heap.size 26 [.int .i64 0, .slice none 0 0] ∧ Below wr.heap.size wr W ∧ wr.heap.size < W.heap.size) ⟨blk_alloc wr [.int .i64 0, .slice none 0 0] _, below_alloc (Below.refl _ _) _, by rw [Deep.nblk_alloc]; omega⟩ ?_
        rintro W2 ⟨oB, b2, l2⟩
        obtain ⟨w7, hw7⟩ : ∃ W, W = wr := ⟨_, rfl⟩
        subst hw7
        have zB2 := zB.below b2
        have bw2 := below_trans b1 b2
        have lgz : w.heap.size < w7.heap.size := by omega
        clear r0 y0 r1 y1 zB h1 b2 b1
        go_wp2_with fail
        go_loopw [6] (fun i W => ∃ k : Nat, k ≤ xs.length ∧ i = .int .i64 k ∧ (xs.take k).any badRow = false ∧ ∃ G y f, OwnS kInt 2 (w7.heap.size + 1) W f (.slice G (xs.take k).flatten.length y) (xs.take k).flatten ∧ f.Nodup ∧ Blk W w7.heap.size 26 [.int .i64 0, .slice G (xs.take k).flatten.length y] ∧ Blk W w.heap.size 26 [.int .i64 0, .slice none 0 0] ∧ Below w.heap.size w W) (fun i _ => xs.length - (intOf i).toNat)
        case atStart => exact ⟨0, Nat.zero_le _, rfl, rfl, none, 0, [], ownS_nil _ _ _, List.nodup_nil, oB, zB2, bw2⟩
        case round =>
          clear oB zB2 bw2 l2
          rename_i wrA W2 _ _
          obtain ⟨k, hk, rfl, hf, G, y, f, ow, nd, oK, zK, hb⟩ := hrel
          have s0 := zK.cell (j := 0) rfl
          have s1 := zK.cell (j := 1) rfl
          have p0 := zK.frozen 0
          have p1 := zK.frozen 1
          by_cases hlt : k < xs.length
          · have hlt' : (k : Int) < (xs.length : Int) := by omega
            have hst := sumL_take xs k hlt
            have hsl := sumL_le xs (k + 1)
            have hfl := sumL_flat (xs.take k)
            have hfe : (xs.take (k + 1)).flatten = (xs.take k).flatten ++ xs[k] := by rw [List.take_succ_eq_append_getElem hlt, List.flatten_append, List.flatten_singleton]
            have hat : (xs.take (k + 1)).any badRow = ((xs.take k).any badRow || badRow xs[k]) := any_take_succ hlt
            obtain ⟨a, ea, hx⟩ := (h.below hb).at_ hlt
            subst ea
            simp only [show kRow.sz = 1 from rfl, Nat.mul_one] at hx
            generalize hxk : xs[k] = x at hx hst hfe hat
            have HXK := Lib.hid hxk
            obtain ⟨X, z, f0, hq⟩ := atRow hx
            generalize (xs.take k).flatten = ys at hfe hfl ow oK
            have hle : ys.length + x.length ≤ 300 := by omega
            have HF := Lib.hid hfe
            have HAT := Lib.hid hat
            have HFF := Lib.hid hf
            clear hst hsl hfl hfe hx hat hf hxk
            by_cases hz : x.length = 0
            · have he : ((x.length : Int) == 0) = true := beq_iff_eq.2 (by omega)
              have HX := Lib.hid (show joinX xs = ⟨1, []⟩ by unfold joinX; rw [if_neg hno, any_at hlt (by rw [HXK.out]; exact badRow_zero hz), if_pos rfl])
              go_wp2_with fail
              exact bodyPost_ret (v := .agg #[.int .i64 1, .slice none 0 0]) (by simp [results, Try.results6, go_sem, s0, s1]) rfl (by rw [HX.out]; exact LaidIR.bad _ (by repeat (first | (with_reducible assumption) | (with_reducible exact Below.refl _ _) | (with_reducible apply below_alloc) | (with_reducible apply below_drewN) | (with_reducible apply Below.drew) | (with_reducible refine below_set ?_ (by dsimp only; omega) _) | (with_reducible refine below_trans ?_ (by assumption)))))
            have he : ((x.length : Int) == 0) = false := beq_eq_false_iff_ne.2 (by omega)
            by_cases h20 : 20 < x.length
            · have hd20 : decide ((20 : Int) < (x.length : Int)) = true := decide_eq_true (by omega)
              have HX := Lib.hid (show joinX xs = ⟨1, []⟩ by unfold joinX; rw [if_neg hno, any_at hlt (by rw [HXK.out]; exact badRow_big h20), if_pos rfl])
              go_wp2_with fail
              exact bodyPost_ret (v := .agg #[.int .i64 1, .slice none 0 0]) (by simp [results, Try.results6, go_sem, s0, s1]) rfl (by rw [HX.out]; exact LaidIR.bad _ (by repeat (first | (with_reducible assumption) | (with_reducible exact Below.refl _ _) | (with_reducible apply below_alloc) | (with_reducible apply below_drewN) | (with_reducible apply Below.drew) | (with_reducible refine below_set ?_ (by dsimp only; omega) _) | (with_reducible refine below_trans ?_ (by assumption)))))
            have hd20 : decide ((20 : Int) < (x.length : Int)) = false := decide_eq_false (by omega)
            have v0 := oK.cell (j := 1) rfl
            have z0 := oK.frozen 1
            have ngf : w7.heap.size ∉ f := fun hm => by have := (ow.in _ hm).1; omega
            have nwf : w.heap.size ∉ f := fun hm => by have := (ow.in _ hm).1; omega
            have OW : OwnS kInt 2 (w7.heap.size + 1) wr.drew f (.slice G ys.length y) ys := OwnS.keep ow (fun b hb => rfl)
            obtain ⟨ce, hsrc, hce⟩ := (hq.below (Below.refl _ _).drew : RdS kInt wr.drew X z x).src (P := Try.prog) (e' := 2) (t := 24) (by kernel_rfl)
            have hol : OwnL kInt (w7.heap.size + 1) wr.drew [] ce x := flat_int.row hce
            have lg := oK.lt
            go_upto_region 16 with fail
            go_region_law (refine step_app (d := kInt) (zs := x) (ys := ys) (fp := f) (fs := []) (v := .slice G ys.length y) (x := .slice X x.length z) (ce := ce) (B := w7.heap.size + 1) rfl (.tmp 50) (.tmp 54) 24 2 rfl (by kernel_rfl) (by kernel_rfl) (by simp [Act.eval, Act.put]) (by simp [Act.eval, Act.put]) OW nd hsrc hol List.nodup_nil (fun _ _ hm => by cases hm) (by omega) (by show _ ≤ wr.heap.size; omega) ?_; intro v' w' fp' hgr; obtain ⟨g1, g2, g3, g4⟩ := hgr; obtain ⟨AA, cA, rfl, _⟩ := g1.form; have oA := (Blk.keep oK rfl : Blk wr.drew w7.heap.size _ _).turn g3 ngf; have zA := (Blk.keep zK rfl : Blk wr.drew w.heap.size _ _).turn g3 nwf; have qA := oA.cell (j := 1) rfl; have fA := oA.frozen 1; have bA : Below w.heap.size w w' := hb.drew.trans (g3.below (B := w.heap.size) (fun b hm => by have := (ow.in b hm).1; omega) hb.size))
            all_goals (go_wp2_with fail)
            all_goals
              refine ⟨⟨k + 1, hlt, by go_num, by rw [HAT.out, HFF.out, badRow_good hz h20]; rfl, AA, cA, fp', ?_, g2, ?_, zA.set_ne (a := ⟨w7.heap.size, 1, none⟩) (by show w7.heap.size ≠ _; omega) _, below_set bA (by show w.heap.size ≤ w7.heap.size; omega) _⟩, by simp [intOf]; omega⟩
              · rw [HF.out]
                exact OwnS.turn g1 ((Turn.refl [w7.heap.size] w').set (p := ⟨w7.heap.size, 1, none⟩) (by simp) _) (fun b hb hm => by have := (g1.in b hb).1; simp at hm; omega)
              · rw [HF.out]
                have := oA.set0 1 (.slice AA (ys ++ x).length cA)
                simpa [List.set_cons_succ, List.set_cons_zero] using this
          · have hk' : k = xs.length := by omega
            subst hk'
            rw [List.take_length] at hf ow oK
            have HX := Lib.hid (show joinX xs = ⟨0, xs.flatten⟩ by unfold joinX; rw [if_neg hno, hf, if_neg (by simp)])
            generalize xs.flatten = ys at ow oK HX
            have v0 := oK.cell (j := 0) rfl
            have v1 := oK.cell (j := 1) rfl
            clear hf h hrow
            go_wp2_with fail
            refine bodyPost_ret (v := .agg #[.int .i64 0, .slice G ys.length y]) (by simp [results, Try.results6, go_sem, s0, s1]) rfl ?_
            rw [HX.out]
            refine ⟨G, y, f, rfl, ?_, nd, by repeat (first | (with_reducible assumption) | (with_reducible exact Below.refl _ _) | (with_reducible apply below_alloc) | (with_reducible apply below_drewN) | (with_reducible apply Below.drew) | (with_reducible refine below_set ?_ (by dsimp only; omega) _) | (with_reducible refine below_trans ?_ (by assumption)))⟩
            refine OwnS.past (lo := w7.heap.size + 1) (w := wr) ow ?_ (Nat.le_refl _) (by omega)
            repeat (first | (with_reducible exact Past.refl _ _) | (with_reducible refine Past.set ?_ (by omega) _))
end Go.Proofs.Ytnbenhkbcodlfaa
