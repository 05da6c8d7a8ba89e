/- WordsOf: the program's, the reference's, and the law walked (written by gT5.py, own work). -/
import Derived.Test.YtnbenhkbcodlfaaDoorT4
set_option linter.unusedVariables false
set_option linter.unusedSimpArgs false
namespace Go.Proofs.YtnbenhkbcodlfaaDoor
open Go Go.RowKit Mk
theorem OwnS.belT {α : Type} {d : Kd α} {e : TypeId} {B : Nat} {w w' : World} {fp : List Nat} {v : Value} {xs : List α} (h : OwnS d e B w fp v xs) (hb : Below w.heap.size w w') : OwnS d e B w' fp v xs := OwnS.keep h (fun b hm => hb.block b (h.in b hm).2)
/-- A result of words that a call laid. -/
def LaidWR (xs : List ByteArray) (w : World) (r : Ending) (w' : World) : Prop := ∃ A c f, r = .returned (.agg #[.int .i64 0, .slice A xs.length c]) ∧ OwnS kStr 9 w.heap.size w' f (.slice A xs.length c) xs ∧ f.Nodup ∧ Below w.heap.size w w'
set_option maxRecDepth 100000 in
set_option maxHeartbeats 8000000 in
theorem sWordsOf_c (s : ByteArray) (w : World) (hs : s.size ≤ 1048576) :
    Calls Tryd.prog 5 #[.string s] w fun r w' => LaidWR (wordsB s) w r w' := by
  have HC := Lib.hid (fun (W : World) (_ : Below w.heap.size w W) => l16Words_c s W hs)
  generalize wordsB s = xs at HC
  go_enter Tryd.func5, Tryd.ntmps5
  go_upto_region 1 with fail
  refine at_world (fun W => Blk W w.heap.size 24 [.int .i64 0, .slice none 0 0] ∧ Below w.heap.size w W) ⟨blk_alloc w [.int .i64 0, .slice none 0 0] _, below_alloc (Below.refl _ _) _⟩ ?_
  rintro W1 ⟨zB, b1⟩
  have lz := zB.lt
  go_wp2_with fail
  refine (HC.out W1 b1).mono ?_
  rintro e w2 ⟨G, y, f, rfl, ow, nd, hb2⟩
  have z2 := zB.below hb2
  have r0 := z2.cell (j := 0) rfl
  have y0 := z2.frozen 0
  have r1 := z2.cell (j := 1) rfl
  have y1 := z2.frozen 1
  have bw : Below w.heap.size w w2 := below_trans b1 hb2
  clear zB z2 hb2 HC
  go_wp2_with fail
  refine bodyPost_ret (v := .agg #[.int .i64 0, .slice G xs.length y]) (by simp [results, Tryd.results5, go_sem, r0, r1]) rfl ⟨G, y, f, rfl, ?_, nd, by repeat (first | (with_reducible assumption) | (with_reducible exact Below.refl _ _) | (with_reducible apply below_alloc) | (with_reducible apply below_drewN) | (with_reducible apply Below.drew) | (with_reducible refine below_set ?_ (by dsimp only; omega) _) | (with_reducible refine below_trans ?_ (by assumption)))⟩
  refine OwnS.past (lo := W1.heap.size) (w := w2) ow ?_ (Nat.le_refl _) (by have := b1.size; omega)
  repeat (first | (with_reducible exact Past.refl _ _) | (with_reducible refine Past.set ?_ (by omega) _))
set_option maxRecDepth 100000 in
set_option maxHeartbeats 8000000 in
theorem iWordsOf_c (s : ByteArray) (w : World) (hs : s.size ≤ 1048576) (hsh : w.ShapedOpen Tryd.prog) :
    Calls Tryd.prog 6 #[.string s] w fun r w' => LaidWR (wordsB s) w r w' := by
  have HC := Lib.hid (fun (W : World) (hW : Below w.heap.size w W) => pieces_c s W hs (shaped_below hsh hW))
  generalize wordsB s = xs at HC
  go_enter Tryd.func6, Tryd.ntmps6
  go_upto_region 1 with fail
  refine at_world (fun W => Blk W w.heap.size 24 [.int .i64 0, .slice none 0 0] ∧ Below w.heap.size w W) ⟨blk_alloc w [.int .i64 0, .slice none 0 0] _, below_alloc (Below.refl _ _) _⟩ ?_
  rintro W1 ⟨zB, b1⟩
  have lz := zB.lt
  go_wp2_with fail
  refine (HC.out W1 b1).mono ?_
  rintro e w2 ⟨G, y, f, rfl, ow, nd, hb2⟩
  have z2 := zB.below hb2
  have r0 := z2.cell (j := 0) rfl
  have y0 := z2.frozen 0
  have r1 := z2.cell (j := 1) rfl
  have y1 := z2.frozen 1
  have bw : Below w.heap.size w w2 := below_trans b1 hb2
  clear zB z2 hb2 HC
  go_wp2_with fail
  refine bodyPost_ret (v := .agg #[.int .i64 0, .slice G xs.length y]) (by simp [results, Tryd.results6, go_sem, r0, r1]) rfl ⟨G, y, f, rfl, ?_, nd, by repeat (first | (with_reducible assumption) | (with_reducible exact Below.refl _ _) | (with_reducible apply below_alloc) | (with_reducible apply below_drewN) | (with_reducible apply Below.drew) | (with_reducible refine below_set ?_ (by dsimp only; omega) _) | (with_reducible refine below_trans ?_ (by assumption)))⟩
  refine OwnS.past (lo := W1.heap.size) (w := w2) ow ?_ (Nat.le_refl _) (by have := b1.size; omega)
  repeat (first | (with_reducible exact Past.refl _ _) | (with_reducible refine Past.set ?_ (by omega) _))
set_option maxRecDepth 100000 in
set_option maxHeartbeats 8000000 in
theorem law_WordsOf (s : ByteArray) (w : World) (hsz : s.size ≤ 9223372036854775807) (hsh : w.ShapedOpen Tryd.prog) :
    Calls Tryd.prog 3 #[.string s] w fun e w' => e = .returned (.bool true) ∧ Below w.heap.size w w' := by
  by_cases hbig : 1048576 < s.size
  · have hd : decide ((1048576 : Int) < (s.size : Int)) = true := decide_eq_true (by omega)
    go_enter Tryd.func3, Tryd.ntmps3
    go_wp2_with fail
    go_ret
    exact ⟨rfl, Below.refl _ _⟩
  have hd : decide ((1048576 : Int) < (s.size : Int)) = false := decide_eq_false (by omega)
  have hs : s.size ≤ 1048576 := by omega
  have HS := Lib.hid (fun W => sWordsOf_c s W hs)
  have HI := Lib.hid (fun (W : World) (hW : Below w.heap.size w W) => iWordsOf_c s W hs (shaped_below hsh hW))
  have cX := wordsB_len s
  generalize wordsB s = X at HS HI cX
  go_enter Tryd.func3, Tryd.ntmps3
  go_wp2_with fail
  clear hd
  refine (HS.out w).mono ?_
  rintro e w3 ⟨S1, s1, u1, rfl, hS, ndS, bw3⟩
  have r1 := ownS_rdsT hS
  clear hS ndS u1
  go_upto_region 4 with fail
  refine at_world (fun W => Blk W w3.heap.size 24 [.int .i64 0, .slice S1 X.length s1] ∧ Below w3.heap.size w3 W ∧ w3.heap.size < W.heap.size) ⟨blk_alloc w3 [.int .i64 0, .slice S1 X.length s1] _, below_alloc (Below.refl _ _) _, by rw [Deep.nblk_alloc]; omega⟩ ?_
  rintro W4 ⟨z4, b4, l4⟩
  have bw4 := below_trans bw3 b4
  go_wp2_with fail
  refine (HI.out W4 bw4).mono ?_
  rintro e w6 ⟨P1, a1, g1, rfl, GF1, ndG, hb6⟩
  have j1 := GF1.in
  go_upto_region 5 with fail
  refine at_world (fun W => Blk W w6.heap.size 24 [.int .i64 0, .slice P1 X.length a1] ∧ Below w6.heap.size w6 W ∧ w6.heap.size < W.heap.size) ⟨blk_alloc w6 [.int .i64 0, .slice P1 X.length a1] _, below_alloc (Below.refl _ _) _, by rw [Deep.nblk_alloc]; omega⟩ ?_
  rintro W7 ⟨q7, b7, l7⟩
  have l6 := hb6.size
  have b47 := below_trans hb6 b7
  have b37 := below_trans b4 b47
  have bw7 := below_trans bw3 b37
  have z7 := z4.below b47
  replace GF1 := OwnS.belT GF1 b7
  clear z4
  have q_0 := q7.cell (j := 0) rfl
  have q_1 := q7.cell (j := 1) rfl
  have z_0 := z7.cell (j := 0) rfl
  have z_1 := z7.cell (j := 1) rfl
  go_wp2_with fail
  clear q_0 q_1 z_0 z_1
  refine (eqWordsResult_c 0 X P1 a1 S1 s1 W7 (ownS_rdsT GF1) (r1.below b37)).mono ?_
  rintro e w8 ⟨rfl, hb8⟩
  replace GF1 := OwnS.belT GF1 hb8
  have q12 := q7.below hb8
  have z12 := z7.below hb8
  have b312 := below_trans b37 hb8
  have bw12 := below_trans bw7 hb8
  have sz12 := hb8.size
  have sz37 := b37.size
  have sz3 := bw3.size
  clear q7 z7
  have q_0 := q12.cell (j := 0) rfl
  have q_1 := q12.cell (j := 1) rfl
  go_wp2_with fail
  clear q_0 q_1
  refine (markWordsResult_c 0 X P1 a1 1 W4.heap.size g1 w8 GF1 ndG (by omega)).mono ?_
  intro e w13 hh
  obtain ⟨v8, hv8, rfl, MF1, hU⟩ : ∃ z : Nat, Hid (1 + X.length = z) ∧ e = .returned (.int .i64 z) ∧ _ := ⟨_, Lib.hid rfl, hh.1, hh.2⟩
  clear hh GF1
  have h8' : v8 ≤ 2097152 := by have := hv8.out; omega
  have hd8 : ¬ ((v8 : Int) < 0) := by omega
  have sz13 := hU.size
  have q13 := q12.turn hU (fun hm => by have := j1 _ hm; omega)
  have z13 := z12.turn hU (fun hm => by have := j1 _ hm; omega)
  have b313 := b312.trans (hU.below (B := w3.heap.size) (fun b hb => by have := j1 b hb; omega) (by omega))
  have bw13 := bw12.trans (hU.below (B := w.heap.size) (fun b hb => by have := j1 b hb; omega) (by omega))
  clear q12 z12 hU
  have q_0 := q13.cell (j := 0) rfl
  have q_1 := q13.cell (j := 1) rfl
  go_wp2_with fail
  clear q_0 q_1
  refine (heldWordsResult_c 0 X P1 a1 1 w13 (ownS_rdsT MF1) (by omega)).mono ?_
  intro e w14 hh
  obtain ⟨rfl, hb14⟩ : e = .returned (.int .i64 v8) ∧ Below w13.heap.size w13 w14 := ⟨by rw [hh.1, hv8.out], hh.2⟩
  clear hh
  have q14 := q13.below hb14
  have z14 := z13.below hb14
  replace MF1 := OwnS.belT MF1 hb14
  have b314 := below_trans b313 hb14
  have bw14 := below_trans bw13 hb14
  clear q13 z13
  go_wp2_with fail
  with_reducible refine (HI.out w14 bw14).mono ?_
  rintro e w16 ⟨R1, d1, u1, rfl, hR, ndR, hb16⟩
  have o1 := ownS_rdsT hR
  clear hR ndR u1
  go_upto_region 16 with fail
  refine at_world (fun W => Blk W w16.heap.size 24 [.int .i64 0, .slice R1 X.length d1] ∧ Below w16.heap.size w16 W) ⟨blk_alloc w16 [.int .i64 0, .slice R1 X.length d1] _, below_alloc (Below.refl _ _) _⟩ ?_
  rintro W17 ⟨t17, b17⟩
  have b1417 := below_trans hb16 b17
  have q17 := q14.below b1417
  have z17 := z14.below b1417
  replace MF1 := OwnS.belT MF1 b1417
  have b317 := below_trans b314 b1417
  have bw17 := below_trans bw14 b1417
  clear q14 z14
  have t_0 := t17.cell (j := 0) rfl
  have t_1 := t17.cell (j := 1) rfl
  have z_0 := z17.cell (j := 0) rfl
  have z_1 := z17.cell (j := 1) rfl
  go_wp2_with fail
  clear t_0 t_1 z_0 z_1
  with_reducible refine (eqWordsResult_c 0 X R1 d1 S1 s1 W17 (o1.below b17) (r1.below b317)).mono ?_
  rintro e w18 ⟨rfl, hb18⟩
  have q18 := q17.below hb18
  have bw18 := below_trans bw17 hb18
  replace MF1 := OwnS.belT MF1 hb18
  clear q17 z17
  have q_0 := q18.cell (j := 0) rfl
  have q_1 := q18.cell (j := 1) rfl
  go_wp2_with fail
  clear q_0 q_1
  refine (heldWordsResult_c 0 X P1 a1 1 w18 (ownS_rdsT MF1) (by omega)).mono ?_
  intro e w19 hh
  obtain ⟨rfl, hb19⟩ : e = .returned (.int .i64 v8) ∧ Below w18.heap.size w18 w19 := ⟨by rw [hh.1, hv8.out], hh.2⟩
  clear hh
  have bw19 := below_trans bw18 hb19
  go_wp2_with fail
  go_ret
  exact ⟨rfl, bw19⟩
end Go.Proofs.YtnbenhkbcodlfaaDoor
