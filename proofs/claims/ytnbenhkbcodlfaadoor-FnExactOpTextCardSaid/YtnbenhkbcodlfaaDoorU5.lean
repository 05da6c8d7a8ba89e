/- OpText: both tops and the law (written by gU5.py, own work). -/
import Derived.Test.YtnbenhkbcodlfaaDoorU4
set_option linter.unusedVariables false
set_option linter.unusedSimpArgs false
namespace Go.Proofs.YtnbenhkbcodlfaaDoor
open Go Go.RowKit Mk
set_option maxRecDepth 100000 in
theorem toOp_c (x : SOp) (w : World) : Calls Tryd.prog 11 #[.agg #[.int .i64 x.Kind, .int .i64 x.Vol, .int .i64 x.At, .int .i64 x.Value]] w fun e w' => e = .returned (.agg #[.int .i64 x.Kind, .int .i64 x.Vol, .int .i64 x.At, .int .i64 x.Value]) ∧ Below w.heap.size w w' := by
  go_enter Tryd.func11, Tryd.ntmps11
  go_wp2_with fail
  exact bodyPost_ret (v := .agg #[.int .i64 x.Kind, .int .i64 x.Vol, .int .i64 x.At, .int .i64 x.Value]) (by simp [results, Tryd.results11, go_sem]) rfl ⟨rfl, by repeat (first | (with_reducible assumption) | (with_reducible exact Below.refl _ _) | (with_reducible apply below_alloc) | (with_reducible apply below_drewN) | (with_reducible apply Below.drew) | (with_reducible refine below_set ?_ (by dsimp only; omega) _) | (with_reducible refine below_trans ?_ (by assumption)))⟩
set_option maxRecDepth 100000 in
set_option maxHeartbeats 4000000 in
theorem eqTextResult_c (e : Int) (s : ByteArray) (w : World) : Calls Tryd.prog 13 #[.agg #[.int .i64 e, .string s], .agg #[.int .i64 e, .string s]] w fun r w' => r = .returned (.bool true) ∧ Below w.heap.size w w' := by
  go_enter Tryd.func13, Tryd.ntmps13
  go_wp2_with fail
  go_ret
  exact ⟨rfl, by repeat (first | (with_reducible assumption) | (with_reducible exact Below.refl _ _) | (with_reducible apply below_alloc) | (with_reducible apply below_drewN) | (with_reducible apply Below.drew) | (with_reducible refine below_set ?_ (by dsimp only; omega) _) | (with_reducible refine below_trans ?_ (by assumption)))⟩
set_option maxRecDepth 100000 in
set_option maxHeartbeats 4000000 in
theorem iOpText_bad (o : SOp) (w : World) (h : ¬ opF o = 0) :
    Calls Tryd.prog 12 #[.agg #[.int .i64 o.Kind, .int .i64 o.Vol, .int .i64 o.At, .int .i64 o.Value]] w fun r w' => r = .returned (.agg #[.int .i64 (opF o), .string ⟨#[]⟩]) ∧ Below w.heap.size w w' := by
  have he : ((opF o) != 0) = true := by simpa using h
  have HF := Lib.hid (fun W => opFault_c o W)
  generalize opF o = cd at HF he
  go_enter Tryd.func12, Tryd.ntmps12
  go_wp2_with fail
  refine (HF.out _).mono ?_
  rintro e w1 ⟨rfl, hb1⟩
  have zB := (blk_alloc1 w (.cells #[.int .i64 o.Kind, .int .i64 o.Vol, .int .i64 o.At, .int .i64 o.Value] 34) [.int .i64 0, .string ⟨#[]⟩] 32).below hb1
  have lz := zB.lt
  have r0 := zB.cell (j := 0) rfl
  have y0 := zB.frozen 0
  have r1 := zB.cell (j := 1) rfl
  have y1 := zB.frozen 1
  have bw : Below w.heap.size w w1 := by repeat (first | (with_reducible assumption) | (with_reducible exact Below.refl _ _) | (with_reducible apply below_alloc) | (with_reducible apply below_drewN) | (with_reducible apply Below.drew) | (with_reducible refine below_set ?_ (by dsimp only; omega) _) | (with_reducible refine below_trans ?_ (by assumption)))
  clear zB hb1
  go_wp2_with fail
  exact bodyPost_ret (v := .agg #[.int .i64 cd, .string ⟨#[]⟩]) (by simp [results, Tryd.results12, go_sem, r0, r1]) rfl ⟨rfl, by repeat (first | (with_reducible assumption) | (with_reducible exact Below.refl _ _) | (with_reducible apply below_alloc) | (with_reducible apply below_drewN) | (with_reducible apply Below.drew) | (with_reducible refine below_set ?_ (by dsimp only; omega) _) | (with_reducible refine below_trans ?_ (by assumption)))⟩
set_option maxRecDepth 100000 in
set_option maxHeartbeats 4000000 in
theorem iOpText_good (o : SOp) (w : World) (h : opF o = 0) (htab : Lib.TabIs Tryd.prog w "internal/strconv.uint64pow10" .u64 Lib.pow10Tab) :
    Calls Tryd.prog 12 #[.agg #[.int .i64 o.Kind, .int .i64 o.Vol, .int .i64 o.At, .int .i64 o.Value]] w fun r w' => r = .returned (.agg #[.int .i64 0, .string (textB o)]) ∧ Below w.heap.size w w' := by
  have HF := Lib.hid (fun W => opFault_c o W)
  rw [h] at HF
  have HT := Lib.hid (fun W hW => opText_c o W h hW)
  generalize textB o = tx at HT
  go_enter Tryd.func12, Tryd.ntmps12
  go_wp2_with fail
  refine (HF.out _).mono ?_
  rintro e w1 ⟨rfl, hb1⟩
  have xB := (blk_alloc w [.int .i64 o.Kind, .int .i64 o.Vol, .int .i64 o.At, .int .i64 o.Value] 34).below (below_trans (below_alloc (Below.refl _ _) (.cells #[.int .i64 0, .string ⟨#[]⟩] 32)) hb1)
  have zB := (blk_alloc1 w (.cells #[.int .i64 o.Kind, .int .i64 o.Vol, .int .i64 o.At, .int .i64 o.Value] 34) [.int .i64 0, .string ⟨#[]⟩] 32).below hb1
  have bw : Below w.heap.size w w1 := by repeat (first | (with_reducible assumption) | (with_reducible exact Below.refl _ _) | (with_reducible apply below_alloc) | (with_reducible apply below_drewN) | (with_reducible apply Below.drew) | (with_reducible refine below_set ?_ (by dsimp only; omega) _) | (with_reducible refine below_trans ?_ (by assumption)))
  clear hb1
  have x0 := xB.cell (j := 0) rfl
  have x1 := xB.cell (j := 1) rfl
  have x2 := xB.cell (j := 2) rfl
  have x3 := xB.cell (j := 3) rfl
  go_wp2_with fail
  refine (HT.out _ (tab_below htab ?_)).mono ?_
  · repeat (first | (with_reducible assumption) | (with_reducible exact Below.refl _ _) | (with_reducible apply below_alloc) | (with_reducible apply below_drewN) | (with_reducible apply Below.drew) | (with_reducible refine below_set ?_ (by dsimp only; omega) _) | (with_reducible refine below_trans ?_ (by assumption)))
  rintro e w2 ⟨rfl, hb2⟩
  replace zB := zB.below hb2
  have lz := zB.lt
  have r0 := zB.cell (j := 0) rfl
  have y0 := zB.frozen 0
  have r1 := zB.cell (j := 1) rfl
  have y1 := zB.frozen 1
  replace bw := below_trans bw hb2
  clear zB hb2 x0 x1 x2 x3 xB
  go_wp2_with fail
  exact bodyPost_ret (v := .agg #[.int .i64 0, .string tx]) (by simp [results, Tryd.results12, go_sem, r0, r1]) rfl ⟨rfl, by repeat (first | (with_reducible assumption) | (with_reducible exact Below.refl _ _) | (with_reducible apply below_alloc) | (with_reducible apply below_drewN) | (with_reducible apply Below.drew) | (with_reducible refine below_set ?_ (by dsimp only; omega) _) | (with_reducible refine below_trans ?_ (by assumption)))⟩
theorem sOpText_c (o : SOp) (w : World) : Calls Tryd.prog 10 #[.agg #[.int .i64 o.Kind, .int .i64 o.Vol, .int .i64 o.At, .int .i64 o.Value]] w fun r w' => r = .returned (.agg #[.int .i64 (opX o).1, .string (opX o).2]) ∧ Below w.heap.size w w' := by
  by_cases h : opF o = 0
  · rw [show opX o = (0, textB o) by unfold opX; rw [if_pos h]]; exact sOpText_good o w h
  · rw [show opX o = (opF o, ⟨#[]⟩) by unfold opX; rw [if_neg h]]; exact sOpText_bad o w h
theorem iOpText_c (o : SOp) (w : World) (htab : Lib.TabIs Tryd.prog w "internal/strconv.uint64pow10" .u64 Lib.pow10Tab) : Calls Tryd.prog 12 #[.agg #[.int .i64 o.Kind, .int .i64 o.Vol, .int .i64 o.At, .int .i64 o.Value]] w fun r w' => r = .returned (.agg #[.int .i64 (opX o).1, .string (opX o).2]) ∧ Below w.heap.size w w' := by
  by_cases h : opF o = 0
  · rw [show opX o = (0, textB o) by unfold opX; rw [if_pos h]]; exact iOpText_good o w h htab
  · rw [show opX o = (opF o, ⟨#[]⟩) by unfold opX; rw [if_neg h]]; exact iOpText_bad o w h
set_option maxRecDepth 100000 in
set_option maxHeartbeats 4000000 in
theorem law_OpText (o : SOp) (w : World) (htab : Lib.TabIs Tryd.prog w "internal/strconv.uint64pow10" .u64 Lib.pow10Tab) :
    Calls Tryd.prog 4 #[.agg #[.int .i64 o.Kind, .int .i64 o.Vol, .int .i64 o.At, .int .i64 o.Value]] w fun e w' => e = .returned (.bool true) ∧ Below w.heap.size w w' := by
  have HS := Lib.hid (fun W => sOpText_c o W)
  have HI := Lib.hid (fun (W : World) (hW : Below w.heap.size w W) => iOpText_c o W (tab_below htab hW))
  have HO := Lib.hid (fun W => toOp_c o W)
  generalize (opX o).1 = E at HS HI
  generalize (opX o).2 = S at HS HI
  go_enter Tryd.func4, Tryd.ntmps4
  go_upto_region 1 with fail
  refine at_world (fun W => Blk W w.heap.size 30 [.int .i64 o.Kind, .int .i64 o.Vol, .int .i64 o.At, .int .i64 o.Value] ∧ Below w.heap.size w W) ⟨blk_alloc w [.int .i64 o.Kind, .int .i64 o.Vol, .int .i64 o.At, .int .i64 o.Value] _, below_alloc (Below.refl _ _) _⟩ ?_
  rintro W1 ⟨xB, b1⟩
  have x0 := xB.cell (j := 0) rfl
  have x1 := xB.cell (j := 1) rfl
  have x2 := xB.cell (j := 2) rfl
  have x3 := xB.cell (j := 3) rfl
  go_wp2_with fail
  refine (HO.out _).mono ?_
  rintro e w2 ⟨rfl, hb2⟩
  go_wp2_with fail
  refine (HS.out _).mono ?_
  rintro e w3 ⟨rfl, hb3⟩
  replace xB := (xB.below hb2).below hb3
  have bw3 : Below w.heap.size w w3 := by repeat (first | (with_reducible assumption) | (with_reducible exact Below.refl _ _) | (with_reducible apply below_alloc) | (with_reducible apply below_drewN) | (with_reducible apply Below.drew) | (with_reducible refine below_set ?_ (by dsimp only; omega) _) | (with_reducible refine below_trans ?_ (by assumption)))
  clear b1 hb2 hb3 x0 x1 x2 x3
  go_upto_region 2 with fail
  refine at_world (fun W => Blk W w3.heap.size 32 [.int .i64 E, .string S] ∧ Below w3.heap.size w3 W) ⟨blk_alloc w3 [.int .i64 E, .string S] _, below_alloc (Below.refl _ _) _⟩ ?_
  rintro W4 ⟨z4, b4⟩
  replace xB := xB.below b4
  have bw4 := below_trans bw3 b4
  clear b4
  have x0 := xB.cell (j := 0) rfl
  have x1 := xB.cell (j := 1) rfl
  have x2 := xB.cell (j := 2) rfl
  have x3 := xB.cell (j := 3) rfl
  go_wp2_with fail
  refine (HO.out _).mono ?_
  rintro e w5 ⟨rfl, hb5⟩
  go_wp2_with fail
  refine (HI.out _ ?_).mono ?_
  · repeat (first | (with_reducible assumption) | (with_reducible exact Below.refl _ _) | (with_reducible apply below_alloc) | (with_reducible apply below_drewN) | (with_reducible apply Below.drew) | (with_reducible refine below_set ?_ (by dsimp only; omega) _) | (with_reducible refine below_trans ?_ (by assumption)))
  rintro e w6 ⟨rfl, hb6⟩
  replace z4 := (z4.below hb5).below hb6
  have bw6 : Below w.heap.size w w6 := by repeat (first | (with_reducible assumption) | (with_reducible exact Below.refl _ _) | (with_reducible apply below_alloc) | (with_reducible apply below_drewN) | (with_reducible apply Below.drew) | (with_reducible refine below_set ?_ (by dsimp only; omega) _) | (with_reducible refine below_trans ?_ (by assumption)))
  clear hb5 hb6 x0 x1 x2 x3 xB bw3 bw4
  go_upto_region 3 with fail
  refine at_world (fun W => Blk W w6.heap.size 32 [.int .i64 E, .string S] ∧ Below w6.heap.size w6 W) ⟨blk_alloc w6 [.int .i64 E, .string S] _, below_alloc (Below.refl _ _) _⟩ ?_
  rintro W7 ⟨q7, b7⟩
  replace z4 := z4.below b7
  have bw7 := below_trans bw6 b7
  have q0 := q7.cell (j := 0) rfl
  have q1 := q7.cell (j := 1) rfl
  have z0 := z4.cell (j := 0) rfl
  have z1 := z4.cell (j := 1) rfl
  go_wp2_with fail
  refine (eqTextResult_c E S _).mono ?_
  rintro e w8 ⟨rfl, hb8⟩
  go_wp2_with fail
  go_ret
  exact ⟨rfl, by repeat (first | (with_reducible assumption) | (with_reducible exact Below.refl _ _) | (with_reducible apply below_alloc) | (with_reducible apply below_drewN) | (with_reducible apply Below.drew) | (with_reducible refine below_set ?_ (by dsimp only; omega) _) | (with_reducible refine below_trans ?_ (by assumption)))⟩
end Go.Proofs.YtnbenhkbcodlfaaDoor
