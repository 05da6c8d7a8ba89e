/- Operations and entries drawn (written by gW2.py, own work). -/
import Derived.Test.YtfblopmploohkaaGreatDoorZW1
set_option linter.unusedVariables false
set_option linter.unusedSimpArgs false
namespace Go.Proofs.YtfblopmploohkaaGreatDoor
open Go Go.RowKit Mk
set_option maxRecDepth 100000 in
set_option maxHeartbeats 4000000 in
theorem l5Op_c {w0 : World} {g : Nat} {code : List (Fin 256)} {A : Option Addr} {c M : Nat} {w : World} (hr : RdS kU8 w0 A c code) (hs : SrcTo w0 g A code.length c M w) (hm : M ≤ 990000) :
    Calls Tryz.prog 24 #[.pointer (some ⟨g, 0, none⟩)] w fun r w' => ∃ o : SOp, r = .returned (.agg #[.int .i64 o.Kind, .int .i64 o.Vol, .int .i64 o.At, .int .i64 o.Value]) ∧ SrcTo w0 g A code.length c (M + 5) w' ∧ Turn [g] w w' := by
  have hz : w.heap.size ≠ g := by have := hs.lt; omega
  have hw0 : w0.heap.size ≤ w.heap.size := hs.b0.size
  go_enter Tryz.func24, Tryz.ntmps24
  go_upto_region 1 with fail
  refine at_world (fun W => Blk W w.heap.size 25 [.int .i64 0, .int .i64 0, .int .i64 0, .int .i64 0] ∧ SrcTo w0 g A code.length c M W ∧ Turn [g] w W) ⟨blk_alloc w [.int .i64 0, .int .i64 0, .int .i64 0, .int .i64 0] _, hs.below (below_alloc (Below.refl _ _) _), (Turn.refl _ _).alloc _⟩ ?_
  clear hs
  rintro W ⟨zB, hs, hT⟩
  go_wp2_with fail
  refine (next_c hr hs (by omega) (by omega) (by omega)).mono ?_
  rintro e w1 ⟨v, rfl, vl, -, hs, hT1⟩
  replace vl := vl (by omega)
  replace hT := hT.trans hT1
  replace zB := zB.turn hT1 (by simpa using hz)
  clear hT1
  go_wp2_with fail
  refine (next_c hr hs (by omega) (by omega) (by omega)).mono ?_
  rintro e w2 ⟨u, rfl, ul, -, hs, hT1⟩
  replace ul := ul (by omega)
  replace hT := hT.trans hT1
  replace zB := zB.turn hT1 (by simpa using hz)
  clear hT1
  by_cases e0 : u = 0
  · subst e0
    go_wp2_with fail
    refine (next_c hr hs (by omega) (by omega) (by omega)).mono ?_
    rintro e w3 ⟨y, rfl, yl, -, hs, hT1⟩
    replace yl := yl (by omega)
    replace hT := hT.trans hT1
    replace zB := zB.turn hT1 (by simpa using hz)
    clear hT1
    have r0 := zB.cell (j := 0) rfl
    have y0 := zB.frozen 0
    have r1 := zB.cell (j := 1) rfl
    have y1 := zB.frozen 1
    have r2 := zB.cell (j := 2) rfl
    have y2 := zB.frozen 2
    have r3 := zB.cell (j := 3) rfl
    have y3 := zB.frozen 3
    have lz := zB.lt
    go_wp2_with fail
    exact bodyPost_ret (v := .agg #[.int .i64 (1), .int .i64 (1 + (v : Int)), .int .i64 (0), .int .i64 (1 + (y : Int))]) (by simp [results, Tryz.results24, go_sem, r0, r1, r2, r3]) rfl ⟨⟨1, 1 + (v : Int), 0, 1 + (y : Int)⟩, rfl, (hs.turn (fq := [w.heap.size]) (by repeat (first | (with_reducible exact Turn.refl _ _) | (with_reducible refine Turn.set ?_ (by simp) _))) (by simp; exact hw0) (by simpa using hz.symm)).mono (by omega), Turn.fresh hT (fq := [w.heap.size]) (by repeat (first | (with_reducible exact Turn.refl _ _) | (with_reducible refine Turn.set ?_ (by simp) _))) (by simp)⟩
  have f0 : ((u : Int) == 0) = false := beq_eq_false_iff_ne.2 (by omega)
  by_cases e1 : u = 1
  · subst e1
    go_wp2_with fail
    refine (next_c hr hs (by omega) (by omega) (by omega)).mono ?_
    rintro e w3 ⟨y, rfl, yl, -, hs, hT1⟩
    replace yl := yl (by omega)
    replace hT := hT.trans hT1
    replace zB := zB.turn hT1 (by simpa using hz)
    clear hT1
    have r0 := zB.cell (j := 0) rfl
    have y0 := zB.frozen 0
    have r1 := zB.cell (j := 1) rfl
    have y1 := zB.frozen 1
    have r2 := zB.cell (j := 2) rfl
    have y2 := zB.frozen 2
    have r3 := zB.cell (j := 3) rfl
    have y3 := zB.frozen 3
    have lz := zB.lt
    go_wp2_with fail
    exact bodyPost_ret (v := .agg #[.int .i64 (5), .int .i64 (1 + (v : Int)), .int .i64 (0), .int .i64 (1 + (y : Int))]) (by simp [results, Tryz.results24, go_sem, r0, r1, r2, r3]) rfl ⟨⟨5, 1 + (v : Int), 0, 1 + (y : Int)⟩, rfl, (hs.turn (fq := [w.heap.size]) (by repeat (first | (with_reducible exact Turn.refl _ _) | (with_reducible refine Turn.set ?_ (by simp) _))) (by simp; exact hw0) (by simpa using hz.symm)).mono (by omega), Turn.fresh hT (fq := [w.heap.size]) (by repeat (first | (with_reducible exact Turn.refl _ _) | (with_reducible refine Turn.set ?_ (by simp) _))) (by simp)⟩
  have f1 : ((u : Int) == 1) = false := beq_eq_false_iff_ne.2 (by omega)
  by_cases e2 : u = 2
  · subst e2
    go_wp2_with fail
    refine (next_c hr hs (by omega) (by omega) (by omega)).mono ?_
    rintro e w3 ⟨y, rfl, yl, -, hs, hT1⟩
    replace yl := yl (by omega)
    replace hT := hT.trans hT1
    replace zB := zB.turn hT1 (by simpa using hz)
    clear hT1
    have r0 := zB.cell (j := 0) rfl
    have y0 := zB.frozen 0
    have r1 := zB.cell (j := 1) rfl
    have y1 := zB.frozen 1
    have r2 := zB.cell (j := 2) rfl
    have y2 := zB.frozen 2
    have r3 := zB.cell (j := 3) rfl
    have y3 := zB.frozen 3
    have lz := zB.lt
    go_wp2_with fail
    exact bodyPost_ret (v := .agg #[.int .i64 (3), .int .i64 (1 + (v : Int)), .int .i64 ((y : Int)), .int .i64 (0)]) (by simp [results, Tryz.results24, go_sem, r0, r1, r2, r3]) rfl ⟨⟨3, 1 + (v : Int), (y : Int), 0⟩, rfl, (hs.turn (fq := [w.heap.size]) (by repeat (first | (with_reducible exact Turn.refl _ _) | (with_reducible refine Turn.set ?_ (by simp) _))) (by simp; exact hw0) (by simpa using hz.symm)).mono (by omega), Turn.fresh hT (fq := [w.heap.size]) (by repeat (first | (with_reducible exact Turn.refl _ _) | (with_reducible refine Turn.set ?_ (by simp) _))) (by simp)⟩
  have f2 : ((u : Int) == 2) = false := beq_eq_false_iff_ne.2 (by omega)
  by_cases e3 : u = 3
  · subst e3
    go_wp2_with fail
    refine (next_c hr hs (by omega) (by omega) (by omega)).mono ?_
    rintro e w3 ⟨y, rfl, yl, -, hs, hT1⟩
    replace yl := yl (by omega)
    replace hT := hT.trans hT1
    replace zB := zB.turn hT1 (by simpa using hz)
    clear hT1
    have r0 := zB.cell (j := 0) rfl
    have y0 := zB.frozen 0
    have r1 := zB.cell (j := 1) rfl
    have y1 := zB.frozen 1
    have r2 := zB.cell (j := 2) rfl
    have y2 := zB.frozen 2
    have r3 := zB.cell (j := 3) rfl
    have y3 := zB.frozen 3
    have lz := zB.lt
    go_wp2_with fail
    exact bodyPost_ret (v := .agg #[.int .i64 (4), .int .i64 (1 + (v : Int)), .int .i64 ((y : Int)), .int .i64 (0)]) (by simp [results, Tryz.results24, go_sem, r0, r1, r2, r3]) rfl ⟨⟨4, 1 + (v : Int), (y : Int), 0⟩, rfl, (hs.turn (fq := [w.heap.size]) (by repeat (first | (with_reducible exact Turn.refl _ _) | (with_reducible refine Turn.set ?_ (by simp) _))) (by simp; exact hw0) (by simpa using hz.symm)).mono (by omega), Turn.fresh hT (fq := [w.heap.size]) (by repeat (first | (with_reducible exact Turn.refl _ _) | (with_reducible refine Turn.set ?_ (by simp) _))) (by simp)⟩
  have f3 : ((u : Int) == 3) = false := beq_eq_false_iff_ne.2 (by omega)
  by_cases e4 : u = 4
  · subst e4
    go_wp2_with fail
    refine (chance_c hr hs (by omega) (by omega) (by omega)).mono ?_
    rintro e w3 ⟨q, rfl, hs, hT1⟩
    replace hT := hT.trans hT1
    replace zB := zB.turn hT1 (by simpa using hz)
    clear hT1
    cases q with
    | true =>
      have r0 := zB.cell (j := 0) rfl
      have y0 := zB.frozen 0
      have r1 := zB.cell (j := 1) rfl
      have y1 := zB.frozen 1
      have r2 := zB.cell (j := 2) rfl
      have y2 := zB.frozen 2
      have r3 := zB.cell (j := 3) rfl
      have y3 := zB.frozen 3
      have lz := zB.lt
      go_wp2_with fail
      exact bodyPost_ret (v := .agg #[.int .i64 (6), .int .i64 (1 + (v : Int)), .int .i64 (0), .int .i64 (0)]) (by simp [results, Tryz.results24, go_sem, r0, r1, r2, r3]) rfl ⟨⟨6, 1 + (v : Int), 0, 0⟩, rfl, (hs.turn (fq := [w.heap.size]) (by repeat (first | (with_reducible exact Turn.refl _ _) | (with_reducible refine Turn.set ?_ (by simp) _))) (by simp; exact hw0) (by simpa using hz.symm)).mono (by omega), Turn.fresh hT (fq := [w.heap.size]) (by repeat (first | (with_reducible exact Turn.refl _ _) | (with_reducible refine Turn.set ?_ (by simp) _))) (by simp)⟩
    | false =>
      go_wp2_with fail
      refine (next_c hr hs (by omega) (by omega) (by omega)).mono ?_
      rintro e w4 ⟨y, rfl, yl, -, hs, hT1⟩
      replace yl := yl (by omega)
      replace hT := hT.trans hT1
      replace zB := zB.turn hT1 (by simpa using hz)
      clear hT1
      go_wp2_with fail
      refine (next_c hr hs (by omega) (by omega) (by omega)).mono ?_
      rintro e w5 ⟨x, rfl, xl, -, hs, hT1⟩
      replace xl := xl (by omega)
      replace hT := hT.trans hT1
      replace zB := zB.turn hT1 (by simpa using hz)
      clear hT1
      have r0 := zB.cell (j := 0) rfl
      have y0 := zB.frozen 0
      have r1 := zB.cell (j := 1) rfl
      have y1 := zB.frozen 1
      have r2 := zB.cell (j := 2) rfl
      have y2 := zB.frozen 2
      have r3 := zB.cell (j := 3) rfl
      have y3 := zB.frozen 3
      have lz := zB.lt
      go_wp2_with fail
      exact bodyPost_ret (v := .agg #[.int .i64 (2), .int .i64 (1 + (v : Int)), .int .i64 ((y : Int)), .int .i64 ((x : Int))]) (by simp [results, Tryz.results24, go_sem, r0, r1, r2, r3]) rfl ⟨⟨2, 1 + (v : Int), (y : Int), (x : Int)⟩, rfl, (hs.turn (fq := [w.heap.size]) (by repeat (first | (with_reducible exact Turn.refl _ _) | (with_reducible refine Turn.set ?_ (by simp) _))) (by simp; exact hw0) (by simpa using hz.symm)).mono (by omega), Turn.fresh hT (fq := [w.heap.size]) (by repeat (first | (with_reducible exact Turn.refl _ _) | (with_reducible refine Turn.set ?_ (by simp) _))) (by simp)⟩
  have f4 : ((u : Int) == 4) = false := beq_eq_false_iff_ne.2 (by omega)
  go_wp2_with fail
  refine (next_c hr hs (by omega) (by omega) (by omega)).mono ?_
  rintro e w4 ⟨y, rfl, yl, -, hs, hT1⟩
  replace yl := yl (by omega)
  replace hT := hT.trans hT1
  replace zB := zB.turn hT1 (by simpa using hz)
  clear hT1
  go_wp2_with fail
  refine (next_c hr hs (by omega) (by omega) (by omega)).mono ?_
  rintro e w5 ⟨x, rfl, xl, -, hs, hT1⟩
  replace xl := xl (by omega)
  replace hT := hT.trans hT1
  replace zB := zB.turn hT1 (by simpa using hz)
  clear hT1
  have r0 := zB.cell (j := 0) rfl
  have y0 := zB.frozen 0
  have r1 := zB.cell (j := 1) rfl
  have y1 := zB.frozen 1
  have r2 := zB.cell (j := 2) rfl
  have y2 := zB.frozen 2
  have r3 := zB.cell (j := 3) rfl
  have y3 := zB.frozen 3
  have lz := zB.lt
  go_wp2_with fail
  exact bodyPost_ret (v := .agg #[.int .i64 (2), .int .i64 (1 + (v : Int)), .int .i64 ((y : Int)), .int .i64 ((x : Int))]) (by simp [results, Tryz.results24, go_sem, r0, r1, r2, r3]) rfl ⟨⟨2, 1 + (v : Int), (y : Int), (x : Int)⟩, rfl, (hs.turn (fq := [w.heap.size]) (by repeat (first | (with_reducible exact Turn.refl _ _) | (with_reducible refine Turn.set ?_ (by simp) _))) (by simp; exact hw0) (by simpa using hz.symm)).mono (by omega), Turn.fresh hT (fq := [w.heap.size]) (by repeat (first | (with_reducible exact Turn.refl _ _) | (with_reducible refine Turn.set ?_ (by simp) _))) (by simp)⟩
end Go.Proofs.YtfblopmploohkaaGreatDoor
