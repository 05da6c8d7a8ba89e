/- An operation drawn, bent now and then; what the law OpTexts draws (written by gY4.py, own work). -/
import Derived.Test.YtfblopmploohkaaGreatDoorZW2
set_option linter.unusedVariables false
set_option linter.unusedSimpArgs false
namespace Go.Proofs.YtfblopmploohkaaGreatDoor
open Go Go.RowKit Mk
set_option maxRecDepth 100000 in
set_option maxHeartbeats 4000000 in
theorem l5BentOp_c {w0 : World} {g : Nat} {code : List (Fin 256)} {A : Option Addr} {c M : Nat} {w : World} (hr : RdS kU8 w0 A c code) (hs : SrcTo w0 g A code.length c M w) (hm : M ≤ 900000) :
    Calls Tryz.prog 11 #[.pointer (some ⟨g, 0, none⟩)] w fun r w' => ∃ o : SOp, r = .returned (.agg #[.int .i64 o.Kind, .int .i64 o.Vol, .int .i64 o.At, .int .i64 o.Value]) ∧ SrcTo w0 g A code.length c (M + 7) w' ∧ Turn [g] w w' := by
  have hz : w.heap.size ≠ g := by have := hs.lt; omega
  have hgl := hs.lt
  have hw0 : w0.heap.size ≤ w.heap.size := hs.b0.size
  go_enter Tryz.func11, Tryz.ntmps11
  go_upto_region 1 with fail
  refine at_world (fun W => Blk W w.heap.size 25 [.int .i64 0, .int .i64 0, .int .i64 0, .int .i64 0] ∧ SrcTo w0 g A code.length c M W ∧ Turn [g] w W) ⟨blk_alloc w [.int .i64 0, .int .i64 0, .int .i64 0, .int .i64 0] _, hs.below (below_alloc (Below.refl _ _) _), (Turn.refl _ _).alloc _⟩ ?_
  clear hs
  rintro W ⟨zB, hs, hT⟩
  go_wp2_with fail
  refine (l5Op_c hr hs (by omega)).mono ?_
  rintro e w1 ⟨o, rfl, hs, hT1⟩
  replace hT := hT.trans hT1
  replace zB := zB.turn hT1 (by simpa using hz)
  clear hT1
  have hlt := zB.lt
  go_upto_region 2 with fail
  refine at_world (fun W => Blk W w1.heap.size 25 [.int .i64 o.Kind, .int .i64 o.Vol, .int .i64 o.At, .int .i64 o.Value] ∧ Blk W w.heap.size 25 [.int .i64 0, .int .i64 0, .int .i64 0, .int .i64 0] ∧ SrcTo w0 g A code.length c (M + 5) W ∧ Turn [g] w W) ⟨blk_alloc w1 [.int .i64 o.Kind, .int .i64 o.Vol, .int .i64 o.At, .int .i64 o.Value] _, zB.below (below_alloc (Below.refl _ _) _), hs.below (below_alloc (Below.refl _ _) _), hT.alloc _⟩ ?_
  clear hs hT zB
  rintro W2 ⟨oB, zB, hs, hT⟩
  obtain ⟨bo, hbo⟩ : ∃ b, b = w1.heap.size := ⟨_, rfl⟩
  rw [← hbo] at oB ⊢
  have hb1 : w.heap.size < bo := by omega
  have hb2 : bo ≠ g := by omega
  clear hbo hlt
  go_wp2_with fail
  refine (next_c hr hs (by omega) (by omega) (by omega)).mono ?_
  rintro e w3 ⟨u, rfl, ul, -, hs, hT1⟩
  replace ul := ul (by omega)
  replace hT := hT.trans hT1
  replace zB := zB.turn hT1 (by simpa using hz)
  replace oB := oB.turn hT1 (by simpa using hb2)
  clear hT1
  by_cases e0 : u = 0
  · subst e0
    go_wp2_with fail
    have bB := blk_alloc w3 [.int .i64 0, .int .i64 7, .int .i64 1, .int .i64 4] 2
    have hbg : w3.heap.size ≠ g := by have := hs.lt; omega
    refine (pick_c [0, 7, 1, 4] hr (hs.below (below_alloc (Below.refl _ _) _)) (by omega) bB hbg (by simp) (by simp)).mono ?_
    rintro e w4 ⟨x, -, rfl, hs4, hT1⟩
    replace hT := (hT.alloc _).trans hT1
    replace zB := (zB.below (below_alloc (Below.refl _ _) _)).turn hT1 (by simpa using hz)
    replace oB := (oB.below (below_alloc (Below.refl _ _) _)).turn hT1 (by simpa using hb2)
    replace hs := hs4
    clear hT1 hs4 bB hbg
    have f0 := oB.frozen 0
    have o0 := oB.cell (j := 0) rfl
    go_upto_region 11 with fail
    refine at_world (fun W => Blk W bo 25 [.int .i64 x, .int .i64 o.Vol, .int .i64 o.At, .int .i64 o.Value] ∧ Blk W w.heap.size 25 [.int .i64 0, .int .i64 0, .int .i64 0, .int .i64 0] ∧ SrcTo w0 g A code.length c (M + 7) W ∧ Turn [g] w W) ⟨oB.set0 0 _, zB.set_ne (a := ⟨bo, 0, none⟩) (by show bo ≠ w.heap.size; omega) _, hs.turn (fq := [bo]) ((Turn.refl _ _).set (by simp) _) (by simp; omega) (by simpa using hb2.symm), Turn.fresh hT (fq := [bo]) ((Turn.refl _ _).set (by simp) _) (by simp; omega)⟩ ?_
    clear hs hT zB oB f0 o0
    rintro W5 ⟨oB, zB, hs, hT⟩
    have o0 := oB.cell (j := 0) rfl
    have o1 := oB.cell (j := 1) rfl
    have o2 := oB.cell (j := 2) rfl
    have o3 := oB.cell (j := 3) rfl
    have r0 := zB.cell (j := 0) rfl
    have y0 := zB.frozen 0
    have r1 := zB.cell (j := 1) rfl
    have y1 := zB.frozen 1
    have r2 := zB.cell (j := 2) rfl
    have y2 := zB.frozen 2
    have r3 := zB.cell (j := 3) rfl
    have y3 := zB.frozen 3
    have lz := zB.lt
    go_wp2_with fail
    exact bodyPost_ret (v := .agg #[.int .i64 x, .int .i64 o.Vol, .int .i64 o.At, .int .i64 o.Value]) (by simp [results, Tryz.results11, go_sem, r0, r1, r2, r3]) rfl ⟨⟨x, o.Vol, o.At, o.Value⟩, rfl, (hs.turn (fq := [w.heap.size]) (by repeat (first | (with_reducible exact Turn.refl _ _) | (with_reducible refine Turn.set ?_ (by simp) _))) (by simp; exact hw0) (by simpa using hz.symm)).mono (by omega), Turn.fresh hT (fq := [w.heap.size]) (by repeat (first | (with_reducible exact Turn.refl _ _) | (with_reducible refine Turn.set ?_ (by simp) _))) (by simp)⟩
  have f0 : ((u : Int) == 0) = false := beq_eq_false_iff_ne.2 (by omega)
  by_cases e1 : u = 1
  · subst e1
    go_wp2_with fail
    have bB := blk_alloc w3 [.int .i64 0, .int .i64 100, .int .i64 9] 2
    have hbg : w3.heap.size ≠ g := by have := hs.lt; omega
    refine (pick_c [0, 100, 9] hr (hs.below (below_alloc (Below.refl _ _) _)) (by omega) bB hbg (by simp) (by simp)).mono ?_
    rintro e w4 ⟨x, -, rfl, hs4, hT1⟩
    replace hT := (hT.alloc _).trans hT1
    replace zB := (zB.below (below_alloc (Below.refl _ _) _)).turn hT1 (by simpa using hz)
    replace oB := (oB.below (below_alloc (Below.refl _ _) _)).turn hT1 (by simpa using hb2)
    replace hs := hs4
    clear hT1 hs4 bB hbg
    have f0 := oB.frozen 1
    have o0 := oB.cell (j := 1) rfl
    go_upto_region 11 with fail
    refine at_world (fun W => Blk W bo 25 [.int .i64 o.Kind, .int .i64 x, .int .i64 o.At, .int .i64 o.Value] ∧ Blk W w.heap.size 25 [.int .i64 0, .int .i64 0, .int .i64 0, .int .i64 0] ∧ SrcTo w0 g A code.length c (M + 7) W ∧ Turn [g] w W) ⟨oB.set0 1 _, zB.set_ne (a := ⟨bo, 1, none⟩) (by show bo ≠ w.heap.size; omega) _, hs.turn (fq := [bo]) ((Turn.refl _ _).set (by simp) _) (by simp; omega) (by simpa using hb2.symm), Turn.fresh hT (fq := [bo]) ((Turn.refl _ _).set (by simp) _) (by simp; omega)⟩ ?_
    clear hs hT zB oB f0 o0
    rintro W5 ⟨oB, zB, hs, hT⟩
    have o0 := oB.cell (j := 0) rfl
    have o1 := oB.cell (j := 1) rfl
    have o2 := oB.cell (j := 2) rfl
    have o3 := oB.cell (j := 3) rfl
    have r0 := zB.cell (j := 0) rfl
    have y0 := zB.frozen 0
    have r1 := zB.cell (j := 1) rfl
    have y1 := zB.frozen 1
    have r2 := zB.cell (j := 2) rfl
    have y2 := zB.frozen 2
    have r3 := zB.cell (j := 3) rfl
    have y3 := zB.frozen 3
    have lz := zB.lt
    go_wp2_with fail
    exact bodyPost_ret (v := .agg #[.int .i64 o.Kind, .int .i64 x, .int .i64 o.At, .int .i64 o.Value]) (by simp [results, Tryz.results11, go_sem, r0, r1, r2, r3]) rfl ⟨⟨o.Kind, x, o.At, o.Value⟩, rfl, (hs.turn (fq := [w.heap.size]) (by repeat (first | (with_reducible exact Turn.refl _ _) | (with_reducible refine Turn.set ?_ (by simp) _))) (by simp; exact hw0) (by simpa using hz.symm)).mono (by omega), Turn.fresh hT (fq := [w.heap.size]) (by repeat (first | (with_reducible exact Turn.refl _ _) | (with_reducible refine Turn.set ?_ (by simp) _))) (by simp)⟩
  have f1 : ((u : Int) == 1) = false := beq_eq_false_iff_ne.2 (by omega)
  by_cases e2 : u = 2
  · subst e2
    go_wp2_with fail
    have bB := blk_alloc w3 [.int .i64 (-1), .int .i64 16, .int .i64 3] 2
    have hbg : w3.heap.size ≠ g := by have := hs.lt; omega
    refine (pick_c [-1, 16, 3] hr (hs.below (below_alloc (Below.refl _ _) _)) (by omega) bB hbg (by simp) (by simp)).mono ?_
    rintro e w4 ⟨x, -, rfl, hs4, hT1⟩
    replace hT := (hT.alloc _).trans hT1
    replace zB := (zB.below (below_alloc (Below.refl _ _) _)).turn hT1 (by simpa using hz)
    replace oB := (oB.below (below_alloc (Below.refl _ _) _)).turn hT1 (by simpa using hb2)
    replace hs := hs4
    clear hT1 hs4 bB hbg
    have f0 := oB.frozen 2
    have o0 := oB.cell (j := 2) rfl
    go_upto_region 11 with fail
    refine at_world (fun W => Blk W bo 25 [.int .i64 o.Kind, .int .i64 o.Vol, .int .i64 x, .int .i64 o.Value] ∧ Blk W w.heap.size 25 [.int .i64 0, .int .i64 0, .int .i64 0, .int .i64 0] ∧ SrcTo w0 g A code.length c (M + 7) W ∧ Turn [g] w W) ⟨oB.set0 2 _, zB.set_ne (a := ⟨bo, 2, none⟩) (by show bo ≠ w.heap.size; omega) _, hs.turn (fq := [bo]) ((Turn.refl _ _).set (by simp) _) (by simp; omega) (by simpa using hb2.symm), Turn.fresh hT (fq := [bo]) ((Turn.refl _ _).set (by simp) _) (by simp; omega)⟩ ?_
    clear hs hT zB oB f0 o0
    rintro W5 ⟨oB, zB, hs, hT⟩
    have o0 := oB.cell (j := 0) rfl
    have o1 := oB.cell (j := 1) rfl
    have o2 := oB.cell (j := 2) rfl
    have o3 := oB.cell (j := 3) rfl
    have r0 := zB.cell (j := 0) rfl
    have y0 := zB.frozen 0
    have r1 := zB.cell (j := 1) rfl
    have y1 := zB.frozen 1
    have r2 := zB.cell (j := 2) rfl
    have y2 := zB.frozen 2
    have r3 := zB.cell (j := 3) rfl
    have y3 := zB.frozen 3
    have lz := zB.lt
    go_wp2_with fail
    exact bodyPost_ret (v := .agg #[.int .i64 o.Kind, .int .i64 o.Vol, .int .i64 x, .int .i64 o.Value]) (by simp [results, Tryz.results11, go_sem, r0, r1, r2, r3]) rfl ⟨⟨o.Kind, o.Vol, x, o.Value⟩, rfl, (hs.turn (fq := [w.heap.size]) (by repeat (first | (with_reducible exact Turn.refl _ _) | (with_reducible refine Turn.set ?_ (by simp) _))) (by simp; exact hw0) (by simpa using hz.symm)).mono (by omega), Turn.fresh hT (fq := [w.heap.size]) (by repeat (first | (with_reducible exact Turn.refl _ _) | (with_reducible refine Turn.set ?_ (by simp) _))) (by simp)⟩
  have f2 : ((u : Int) == 2) = false := beq_eq_false_iff_ne.2 (by omega)
  by_cases e3 : u = 3
  · subst e3
    go_wp2_with fail
    have bB := blk_alloc w3 [.int .i64 (-1), .int .i64 256, .int .i64 17, .int .i64 0] 2
    have hbg : w3.heap.size ≠ g := by have := hs.lt; omega
    refine (pick_c [-1, 256, 17, 0] hr (hs.below (below_alloc (Below.refl _ _) _)) (by omega) bB hbg (by simp) (by simp)).mono ?_
    rintro e w4 ⟨x, -, rfl, hs4, hT1⟩
    replace hT := (hT.alloc _).trans hT1
    replace zB := (zB.below (below_alloc (Below.refl _ _) _)).turn hT1 (by simpa using hz)
    replace oB := (oB.below (below_alloc (Below.refl _ _) _)).turn hT1 (by simpa using hb2)
    replace hs := hs4
    clear hT1 hs4 bB hbg
    have f0 := oB.frozen 3
    have o0 := oB.cell (j := 3) rfl
    go_upto_region 11 with fail
    refine at_world (fun W => Blk W bo 25 [.int .i64 o.Kind, .int .i64 o.Vol, .int .i64 o.At, .int .i64 x] ∧ Blk W w.heap.size 25 [.int .i64 0, .int .i64 0, .int .i64 0, .int .i64 0] ∧ SrcTo w0 g A code.length c (M + 7) W ∧ Turn [g] w W) ⟨oB.set0 3 _, zB.set_ne (a := ⟨bo, 3, none⟩) (by show bo ≠ w.heap.size; omega) _, hs.turn (fq := [bo]) ((Turn.refl _ _).set (by simp) _) (by simp; omega) (by simpa using hb2.symm), Turn.fresh hT (fq := [bo]) ((Turn.refl _ _).set (by simp) _) (by simp; omega)⟩ ?_
    clear hs hT zB oB f0 o0
    rintro W5 ⟨oB, zB, hs, hT⟩
    have o0 := oB.cell (j := 0) rfl
    have o1 := oB.cell (j := 1) rfl
    have o2 := oB.cell (j := 2) rfl
    have o3 := oB.cell (j := 3) rfl
    have r0 := zB.cell (j := 0) rfl
    have y0 := zB.frozen 0
    have r1 := zB.cell (j := 1) rfl
    have y1 := zB.frozen 1
    have r2 := zB.cell (j := 2) rfl
    have y2 := zB.frozen 2
    have r3 := zB.cell (j := 3) rfl
    have y3 := zB.frozen 3
    have lz := zB.lt
    go_wp2_with fail
    exact bodyPost_ret (v := .agg #[.int .i64 o.Kind, .int .i64 o.Vol, .int .i64 o.At, .int .i64 x]) (by simp [results, Tryz.results11, go_sem, r0, r1, r2, r3]) rfl ⟨⟨o.Kind, o.Vol, o.At, x⟩, rfl, (hs.turn (fq := [w.heap.size]) (by repeat (first | (with_reducible exact Turn.refl _ _) | (with_reducible refine Turn.set ?_ (by simp) _))) (by simp; exact hw0) (by simpa using hz.symm)).mono (by omega), Turn.fresh hT (fq := [w.heap.size]) (by repeat (first | (with_reducible exact Turn.refl _ _) | (with_reducible refine Turn.set ?_ (by simp) _))) (by simp)⟩
  have f3 : ((u : Int) == 3) = false := beq_eq_false_iff_ne.2 (by omega)
  go_upto_region 11 with fail
  have o0 := oB.cell (j := 0) rfl
  have o1 := oB.cell (j := 1) rfl
  have o2 := oB.cell (j := 2) rfl
  have o3 := oB.cell (j := 3) rfl
  have r0 := zB.cell (j := 0) rfl
  have y0 := zB.frozen 0
  have r1 := zB.cell (j := 1) rfl
  have y1 := zB.frozen 1
  have r2 := zB.cell (j := 2) rfl
  have y2 := zB.frozen 2
  have r3 := zB.cell (j := 3) rfl
  have y3 := zB.frozen 3
  have lz := zB.lt
  go_wp2_with fail
  exact bodyPost_ret (v := .agg #[.int .i64 o.Kind, .int .i64 o.Vol, .int .i64 o.At, .int .i64 o.Value]) (by simp [results, Tryz.results11, go_sem, r0, r1, r2, r3]) rfl ⟨⟨o.Kind, o.Vol, o.At, o.Value⟩, rfl, (hs.turn (fq := [w.heap.size]) (by repeat (first | (with_reducible exact Turn.refl _ _) | (with_reducible refine Turn.set ?_ (by simp) _))) (by simp; exact hw0) (by simpa using hz.symm)).mono (by omega), Turn.fresh hT (fq := [w.heap.size]) (by repeat (first | (with_reducible exact Turn.refl _ _) | (with_reducible refine Turn.set ?_ (by simp) _))) (by simp)⟩
/-- What the law OpTexts draws. -/
def DrawnOp (w : World) (r : Ending) (w' : World) : Prop := ∃ o : SOp, r = .returned (.agg #[.int .i64 o.Kind, .int .i64 o.Vol, .int .i64 o.At, .int .i64 o.Value]) ∧ Below w.heap.size w w'
set_option maxRecDepth 100000 in
set_option maxHeartbeats 4000000 in
theorem drawOpText_c (code : List (Fin 256)) (A : Option Addr) (c : Nat) (w : World) (hr : RdS kU8 w A c code) :
    Calls Tryz.prog 5 #[.slice A code.length c] w fun r w' => DrawnOp w r w' := by
  go_enter Tryz.func5, Tryz.ntmps5
  go_upto_region 1 with fail
  refine at_world (fun W => Blk W w.heap.size 25 [.int .i64 0, .int .i64 0, .int .i64 0, .int .i64 0] ∧ Below w.heap.size w W) ⟨blk_alloc w [.int .i64 0, .int .i64 0, .int .i64 0, .int .i64 0] _, below_alloc (Below.refl _ _) _⟩ ?_
  rintro W ⟨zB, b0⟩
  go_wp2_with fail
  refine (l1Source_c code A c W).mono ?_
  rintro e w1 ⟨rfl, sB, hb1, hl1⟩
  go_wp2_with fail
  refine (l5BentOp_c (hr.below b0) (⟨0, Nat.le_refl _, sB⟩ : SrcTo W W.heap.size A code.length c 0 w1) (by omega)).mono ?_
  rintro e w2 ⟨o, rfl, hs, hT⟩
  have hbW : Below W.heap.size W w2 := hb1.trans (hT.below (B := W.heap.size) (by simp) hb1.size)
  have bw2 : Below w.heap.size w w2 := below_trans b0 hbW
  replace zB := zB.below hbW
  have r0 := zB.cell (j := 0) rfl
  have y0 := zB.frozen 0
  have r1 := zB.cell (j := 1) rfl
  have y1 := zB.frozen 1
  have r2 := zB.cell (j := 2) rfl
  have y2 := zB.frozen 2
  have r3 := zB.cell (j := 3) rfl
  have y3 := zB.frozen 3
  have lz := zB.lt
  go_wp2_with fail
  exact bodyPost_ret (v := .agg #[.int .i64 o.Kind, .int .i64 o.Vol, .int .i64 o.At, .int .i64 o.Value]) (by simp [results, Tryz.results5, go_sem, r0, r1, r2, r3]) rfl ⟨o, rfl, by repeat (first | (with_reducible assumption) | (with_reducible exact Below.refl _ _) | (with_reducible apply below_alloc) | (with_reducible apply below_drewN) | (with_reducible apply Below.drew) | (with_reducible refine below_set ?_ (by dsimp only; omega) _) | (with_reducible refine below_trans ?_ (by assumption)))⟩
end Go.Proofs.YtfblopmploohkaaGreatDoor
