/- The law JoinChunks, walked (own work). -/
import Derived.Test.YtnbenhkbcodlfaaV4
import Derived.Test.YtnbenhkbcodlfaaM2
set_option linter.unusedVariables false
set_option linter.unusedSimpArgs false
namespace Go.Proofs.Ytnbenhkbcodlfaa
open Go Go.RowKit Mk
set_option maxRecDepth 100000 in
set_option maxHeartbeats 4000000 in
theorem eqIntsResult_c (x : SIntsResult) (A1 : Option Addr) (c1 : Nat) (B1 : Option Addr) (d1 : Nat) (w : World) (h1 : RdS kInt w A1 c1 x.List) (k1 : RdS kInt w B1 d1 x.List) :
    Calls Try.prog 9 #[.agg #[.int .i64 x.Code, .slice A1 x.List.length c1], .agg #[.int .i64 x.Code, .slice B1 x.List.length d1]] w fun e w' => e = .returned (.bool true) ∧ Below w.heap.size w w' := by
  go_enter Try.func9, Try.ntmps9
  go_wp2_with fail
  refine (eqInt64S_c x.List _ _ _ _ _ (h1.below (by repeat (first | (with_reducible assumption) | (with_reducible exact Below.refl _ _) | (with_reducible apply below_alloc) | (with_reducible apply below_drewN) | (with_reducible apply Below.drew) | (with_reducible refine below_set ?_ (by dsimp only; omega) _) | (with_reducible refine below_trans ?_ (by assumption))))) (k1.below (by repeat (first | (with_reducible assumption) | (with_reducible exact Below.refl _ _) | (with_reducible apply below_alloc) | (with_reducible apply below_drewN) | (with_reducible apply Below.drew) | (with_reducible refine below_set ?_ (by dsimp only; omega) _) | (with_reducible refine below_trans ?_ (by assumption)))))).mono ?_
  rintro e w1 ⟨rfl, hb1⟩
  have bw : Below w.heap.size w w1 := by repeat (first | (with_reducible assumption) | (with_reducible exact Below.refl _ _) | (with_reducible apply below_alloc) | (with_reducible apply below_drewN) | (with_reducible apply Below.drew) | (with_reducible refine below_set ?_ (by dsimp only; omega) _) | (with_reducible refine below_trans ?_ (by assumption)))
  go_wp2_with fail
  go_ret
  exact ⟨rfl, bw⟩
set_option maxRecDepth 100000 in
set_option maxHeartbeats 2000000 in
theorem markIntsResult_c (x : SIntsResult) (A1 : Option Addr) (c1 : Nat) (k : Int) (B : Nat) (f1 : List Nat) (w : World) (h1 : OwnS kInt 2 B w f1 (.slice A1 x.List.length c1) x.List) (nd : (f1 : List Nat).Nodup) (hk : 0 ≤ k) (hb : k + ↑(ctL ctI x.List) ≤ 4611686018427387904) :
    Calls Try.prog 12 #[.agg #[.int .i64 x.Code, .slice A1 x.List.length c1], .int .i64 k] w fun e' w' => e' = .returned (.int .i64 (k + ↑(ctL ctI x.List))) ∧ OwnS kInt 2 B w' f1 (.slice A1 x.List.length c1) (mkL mkI ctI (k) x.List) ∧ Turn f1 w w' := by
  have n1 : 0 ≤ k + ↑(ctL ctI x.List) := by omega
  have i1 : ∀ b ∈ f1, b < w.heap.size := fun b hb => (h1.in b hb).2
  have hx0 : Blk (w.alloc (.cells #[.int .i64 x.Code, .slice A1 x.List.length c1] 26)) w.heap.size 26 [.int .i64 x.Code, .slice A1 x.List.length c1] := blk_alloc w [.int .i64 x.Code, .slice A1 x.List.length c1] _
  go_enter Try.func12, Try.ntmps12
  have h1 := OwnS.keep h1 (w' := (w.alloc (.cells #[.int .i64 x.Code, .slice A1 x.List.length c1] 26))) (fun b hb => Below.heap_alloc _ _ _ (i1 b hb))
  have ht : Turn f1 w (w.alloc (.cells #[.int .i64 x.Code, .slice A1 x.List.length c1] 26)) := (Turn.refl _ _).alloc _
  go_wp2_with fail
  refine Calls.mono (markInt64S_c x.List A1 c1 _ B f1 _ h1 (by first | exact nd | simp_all) (by omega) (by omega)) ?_
  rintro e0 w1 ⟨rfl, o1, t0⟩
  have ht := ht.trans (t0.mono (fq := f1) (by intro b hb; first | exact hb | (simp only [List.mem_append] at hb ⊢; grind)))
  have hx1 := Blk.keep hx0 (t0.block _ hx0.lt (by intro hm; (try simp only [List.mem_append] at hm); grind))
  go_wp2_with fail
  go_ret
  exact ⟨rfl, o1, ht⟩
set_option maxRecDepth 100000 in
set_option maxHeartbeats 2000000 in
theorem heldIntsResult_c (x : SIntsResult) (A1 : Option Addr) (c1 : Nat) (k : Int) (w : World) (h1 : RdS kInt w A1 c1 (mkL mkI ctI (k) x.List)) (hk : 0 ≤ k) (hb : k + ↑(ctL ctI x.List) ≤ 4611686018427387904) :
    Calls Try.prog 13 #[.agg #[.int .i64 x.Code, .slice A1 x.List.length c1], .int .i64 k] w fun e' w' => e' = .returned (.int .i64 (k + ↑(ctL ctI x.List))) ∧ Below w.heap.size w w' := by
  have n1 : 0 ≤ k + ↑(ctL ctI x.List) := by omega
  have hx0 : Blk (w.alloc (.cells #[.int .i64 x.Code, .slice A1 x.List.length c1] 26)) w.heap.size 26 [.int .i64 x.Code, .slice A1 x.List.length c1] := blk_alloc w [.int .i64 x.Code, .slice A1 x.List.length c1] _
  go_enter Try.func13, Try.ntmps13
  have hb0 : Below w.heap.size w (w.alloc (.cells #[.int .i64 x.Code, .slice A1 x.List.length c1] 26)) := below_alloc (Below.refl _ _) _
  go_wp2_with fail
  refine Calls.mono (heldInt64S_c x.List A1 c1 _ _ (h1.below (by repeat (first | (with_reducible assumption) | (with_reducible exact Below.refl _ _) | (with_reducible apply below_alloc) | (with_reducible apply below_drewN) | (with_reducible apply Below.drew) | (with_reducible refine below_set ?_ (by dsimp only; omega) _) | (with_reducible refine below_trans ?_ (by assumption))))) (by omega) (by omega)) ?_
  rintro e0 w1 ⟨rfl, rfl⟩
  go_wp2_with fail
  go_ret
  exact ⟨rfl, by repeat (first | (with_reducible assumption) | (with_reducible exact Below.refl _ _) | (with_reducible apply below_alloc) | (with_reducible apply below_drewN) | (with_reducible apply Below.drew) | (with_reducible refine below_set ?_ (by dsimp only; omega) _) | (with_reducible refine below_trans ?_ (by assumption)))⟩
theorem OwnS.belJ {α : Type} {d : Kd α} {e : TypeId} {B : Nat} {w w' : World} {fp : List Nat} {v : Value} {xs : List α} (h : OwnS d e B w fp v xs) (hb : Below w.heap.size w w') : OwnS d e B w' fp v xs := OwnS.keep h (fun b hm => hb.block b (h.in b hm).2)
theorem ctI_len : ∀ xs : List Int, ctL ctI xs = xs.length
  | [] => rfl
  | x :: xs => by show 1 + ctL ctI xs = _; rw [ctI_len xs, List.length_cons]; omega
theorem ctRow_sum : ∀ xs : List (List Int), ctL ctRow xs = sumL xs
  | [] => rfl
  | x :: xs => by show ctRow x + ctL ctRow xs = _; rw [ctRow_sum xs]; unfold ctRow; rw [ctI_len]; simp [sumL]
theorem joinX_ct (xs : List (List Int)) : ctL ctI (joinX xs).List ≤ 300 := by
  rw [ctI_len]
  unfold joinX
  split
  · simp
  · rename_i h
    split
    · simp
    · dsimp only; rw [sumL_flat]; omega
set_option maxRecDepth 100000 in
set_option maxHeartbeats 8000000 in
theorem law_JoinChunks (n : List (List Int)) (A : Option Addr) (c : Nat) (w : World) (h : RdS kRow w A c n) :
    Calls Try.prog 3 #[.slice A n.length c] w fun e w' => e = .returned (.bool true) ∧ Below w.heap.size w w' := by
  have HS := Lib.hid (sJoin_c n)
  have HI := Lib.hid (iJoin_c n)
  have cX := joinX_ct n
  generalize joinX n = X at HS HI cX
  go_enter Try.func3, Try.ntmps3
  go_wp2_with fail
  refine (szInt64SS_c n A c _ w h (by omega) (by omega)).mono ?_
  rintro e w1 ⟨⟨r, rfl, hr⟩, bw1⟩
  by_cases hr0 : r < 0
  · have hd : decide (r < 0) = true := decide_eq_true hr0
    go_wp2_with fail
    go_ret
    exact ⟨rfl, bw1⟩
  have hd : decide (r < 0) = false := decide_eq_false hr0
  have ht : totL List.length n ≤ 1048576 := by unfold Left at hr; omega
  have cN : ctL ctRow n ≤ 1048576 := by rw [ctRow_sum]; unfold totL at ht; unfold sumL; omega
  clear hr0 hr
  go_wp2_with fail
  clear hd
  -- what the reference is asked, and answers
  refine (toInt64SS_c n A c w1 (h.below bw1) ht).mono ?_
  rintro e w2 ⟨G, fp, rfl, nd, ow, hb2⟩
  go_wp2_with fail
  refine (HS.out _ _ w2 (ownS_rds ow).1 ht).mono ?_
  rintro e w3 ⟨S1, s1, u1, rfl, hS, ndS, hb3⟩
  have r1 := (ownS_rds hS).1
  clear ow nd fp hS u1 ndS
  have bw3 : Below w.heap.size w w3 := below_trans bw1 (below_trans hb2 hb3)
  clear hb2 hb3 bw1
  go_upto_region 6 with fail
  refine at_world (fun W => Blk W w3.heap.size 26 [.int .i64 X.Code, .slice S1 X.List.length s1] ∧ Below w3.heap.size w3 W ∧ w3.heap.size < W.heap.size) ⟨blk_alloc w3 [.int .i64 X.Code, .slice S1 X.List.length s1] _, below_alloc (Below.refl _ _) _, by rw [Deep.nblk_alloc]; omega⟩ ?_
  rintro W4 ⟨z4, b4, l4⟩
  go_wp2_with fail
  -- the argument of the program
  refine (toInt64SS_c n A c W4 (h.below (below_trans bw3 b4)) ht).mono ?_
  rintro e w5 ⟨GA, fa, rfl, ndA, oA, hb5⟩
  have kA := oA.in
  go_wp2_with fail
  -- what the program answers
  refine (HI.out _ _ w5 (ownS_rds oA).1 ht).mono ?_
  rintro e w6 ⟨P1, a1, g1, rfl, GF1, ndG, hb6⟩
  have j1 := GF1.in
  replace oA := OwnS.belJ oA hb6
  go_upto_region 8 with fail
  refine at_world (fun W => Blk W w6.heap.size 26 [.int .i64 X.Code, .slice P1 X.List.length a1] ∧ Below w6.heap.size w6 W ∧ w6.heap.size < W.heap.size) ⟨blk_alloc w6 [.int .i64 X.Code, .slice P1 X.List.length a1] _, below_alloc (Below.refl _ _) _, by rw [Deep.nblk_alloc]; omega⟩ ?_
  rintro W7 ⟨q7, b7, l7⟩
  have l6 := hb6.size
  have l5 := hb5.size
  have b47 := below_trans hb5 (below_trans hb6 b7)
  have b37 := below_trans b4 b47
  have bw7 := below_trans bw3 b37
  have z7 := z4.below b47
  replace GF1 := OwnS.belJ GF1 b7
  replace oA := OwnS.belJ oA b7
  clear z4
  have q_0 := q7.cell (j := 0) rfl
  have q_1 := q7.cell (j := 1) rfl
  have z_0 := z7.cell (j := 0) rfl
  have z_1 := z7.cell (j := 1) rfl
  go_wp2_with fail
  clear q_0 q_1 z_0 z_1
  refine (eqIntsResult_c X P1 a1 S1 s1 W7 (ownS_rds GF1).1 (r1.below b37)).mono ?_
  rintro e w8 ⟨rfl, hb8⟩
  go_wp2_with fail
  refine (toInt64SS_c n A c w8 (h.below (below_trans bw7 hb8)) ht).mono ?_
  rintro e w9 ⟨GB, fb, rfl, ndB, oB, hb9⟩
  go_wp2_with fail
  have b79 := below_trans hb8 hb9
  refine (eqInt64SS_c n _ _ _ _ w9 ((ownS_rds oA).1.below b79) (ownS_rds oB).1).mono ?_
  rintro e w10 ⟨rfl, hb10⟩
  have b710 := below_trans b79 hb10
  clear oB ndB fb hb8 hb9 hb10 b79
  have b310 := below_trans b37 b710
  have bw10 := below_trans bw7 b710
  have q10 := q7.below b710
  have z10 := z7.below b710
  replace GF1 := OwnS.belJ GF1 b710
  replace oA := OwnS.belJ oA b710
  clear q7 z7
  have sz10 := b710.size
  have sz37 := b37.size
  have sz3 := bw3.size
  -- the argument is marked
  go_wp2_with fail
  with_reducible refine (markInt64SS_c n _ _ 1 W4.heap.size fa w10 oA ndA (by omega) (by omega)).mono ?_
  intro e w11 hh
  obtain ⟨v7, hv7, rfl, hT⟩ : ∃ z : Int, 0 ≤ z ∧ e = .returned (.int .i64 z) ∧ Turn fa w10 w11 := ⟨_, by omega, hh.1, hh.2⟩
  have hd7 : decide (v7 < 0) = false := decide_eq_false (by omega)
  clear hh hv7 oA
  have sz11 := hT.size
  replace GF1 := OwnS.turn GF1 hT (fun b hb hm => by have := j1 b hb; have := kA b hm; omega)
  have q11 := q10.turn hT (fun hm => by have := kA _ hm; omega)
  have z11 := z10.turn hT (fun hm => by have := kA _ hm; omega)
  have b311 := b310.trans (hT.below (B := w3.heap.size) (fun b hb => by have := kA b hb; omega) (by omega))
  have bw11 := bw10.trans (hT.below (B := w.heap.size) (fun b hb => by have := kA b hb; omega) (by omega))
  clear q10 z10 hT
  have q_0 := q11.cell (j := 0) rfl
  have q_1 := q11.cell (j := 1) rfl
  have z_0 := z11.cell (j := 0) rfl
  have z_1 := z11.cell (j := 1) rfl
  go_wp2_with fail
  clear q_0 q_1 z_0 z_1
  with_reducible refine (eqIntsResult_c X P1 a1 S1 s1 w11 (ownS_rds GF1).1 (r1.below b311)).mono ?_
  rintro e w12 ⟨rfl, hb12⟩
  replace GF1 := OwnS.belJ GF1 hb12
  have q12 := q11.below hb12
  have z12 := z11.below hb12
  have b312 := below_trans b311 hb12
  have bw12 := below_trans bw11 hb12
  have sz12 := hb12.size
  clear q11 z11
  have q_0 := q12.cell (j := 0) rfl
  have q_1 := q12.cell (j := 1) rfl
  go_wp2_with fail
  clear q_0 q_1
  with_reducible refine (markIntsResult_c X P1 a1 1 w5.heap.size g1 w12 GF1 ndG (by omega) (by omega)).mono ?_
  intro e w13 hh
  obtain ⟨v8, hv8, h8', rfl, MF1, hU⟩ : ∃ z : Int, Hid (1 + ↑(ctL ctI X.List) = z) ∧ 0 ≤ z ∧ e = .returned (.int .i64 z) ∧ _ := ⟨_, Lib.hid rfl, by omega, hh.1, hh.2⟩
  have hd8 : decide (v8 < 0) = false := decide_eq_false (by omega)
  clear hh GF1
  have sz13 := hU.size
  have q13 := q12.turn hU (fun hm => by have := j1 _ hm; omega)
  have z13 := z12.turn hU (fun hm => by have := j1 _ hm; omega)
  have b313 := b312.trans (hU.below (B := w3.heap.size) (fun b hb => by have := j1 b hb; omega) (by omega))
  have bw13 := bw12.trans (hU.below (B := w.heap.size) (fun b hb => by have := j1 b hb; omega) (by omega))
  clear q12 z12 hU
  have q_0 := q13.cell (j := 0) rfl
  have q_1 := q13.cell (j := 1) rfl
  go_wp2_with fail
  clear q_0 q_1
  with_reducible refine (heldIntsResult_c X P1 a1 1 w13 (ownS_rds MF1).1 (by omega) (by omega)).mono ?_
  intro e w14 hh
  obtain ⟨rfl, hb14⟩ : e = .returned (.int .i64 v8) ∧ Below w13.heap.size w13 w14 := ⟨by rw [hh.1, hv8.out], hh.2⟩
  clear hh
  have q14 := q13.below hb14
  have z14 := z13.below hb14
  replace MF1 := OwnS.belJ MF1 hb14
  have b314 := below_trans b313 hb14
  have bw14 := below_trans bw13 hb14
  clear q13 z13
  go_wp2_with fail
  -- asked once more
  with_reducible refine (toInt64SS_c n A c w14 (h.below bw14) ht).mono ?_
  rintro e w15 ⟨I0, fi, rfl, ndI, oI, hb15⟩
  go_wp2_with fail
  with_reducible refine (HI.out _ _ w15 (ownS_rds oI).1 ht).mono ?_
  rintro e w16 ⟨R1, d1, u1, rfl, hR, ndR, hb16⟩
  have o1 := (ownS_rds hR).1
  clear oI ndI fi hR ndR u1
  have b1416 := below_trans hb15 hb16
  go_upto_region 25 with fail
  refine at_world (fun W => Blk W w16.heap.size 26 [.int .i64 X.Code, .slice R1 X.List.length d1] ∧ Below w16.heap.size w16 W) ⟨blk_alloc w16 [.int .i64 X.Code, .slice R1 X.List.length d1] _, below_alloc (Below.refl _ _) _⟩ ?_
  rintro W17 ⟨t17, b17⟩
  have b1417 := below_trans b1416 b17
  have q17 := q14.below b1417
  have z17 := z14.below b1417
  replace MF1 := OwnS.belJ MF1 b1417
  have b317 := below_trans b314 b1417
  have bw17 := below_trans bw14 b1417
  clear q14 z14
  have t_0 := t17.cell (j := 0) rfl
  have t_1 := t17.cell (j := 1) rfl
  have z_0 := z17.cell (j := 0) rfl
  have z_1 := z17.cell (j := 1) rfl
  go_wp2_with fail
  clear t_0 t_1 z_0 z_1
  with_reducible refine (eqIntsResult_c X R1 d1 S1 s1 W17 (o1.below b17) (r1.below b317)).mono ?_
  rintro e w18 ⟨rfl, hb18⟩
  have q18 := q17.below hb18
  have bw18 := below_trans bw17 hb18
  replace MF1 := OwnS.belJ MF1 hb18
  clear q17 z17
  have q_0 := q18.cell (j := 0) rfl
  have q_1 := q18.cell (j := 1) rfl
  go_wp2_with fail
  clear q_0 q_1
  with_reducible refine (heldIntsResult_c X P1 a1 1 w18 (ownS_rds MF1).1 (by omega) (by omega)).mono ?_
  intro e w19 hh
  obtain ⟨rfl, hb19⟩ : e = .returned (.int .i64 v8) ∧ Below w18.heap.size w18 w19 := ⟨by rw [hh.1, hv8.out], hh.2⟩
  clear hh
  have bw19 := below_trans bw18 hb19
  go_wp2_with fail
  go_ret
  exact ⟨rfl, bw19⟩
end Go.Proofs.Ytnbenhkbcodlfaa
