/- A bent node drawn: l9Bent (written by gW9.py, own work). -/
import Derived.Test.YtdjfehjddfbbjaaGreatZW6
import Derived.Test.YtdjfehjddfbbjaaGreatZW8
set_option linter.unusedVariables false
set_option linter.unusedSimpArgs false
namespace Go.Proofs.YtdjfehjddfbbjaaGreat
open Go Go.RowKit Mk
/-- Bounds of a bent node. -/
def LooseB (n : SReplica) : Prop := n.Log.length ≤ 8 ∧ n.Oks.length ≤ 7 ∧ n.Asks.length ≤ 5 ∧ n.Doers.length ≤ 5
theorem Loose.wide {n : SReplica} (h : Loose n) : LooseB n := ⟨h.1, by have := h.2.1; omega, h.2.2⟩
/-- A bent node drawn. -/
def BentTo (w0 : World) (g : Nat) (A : Option Addr) (len c M : Nat) (w : World) (r : Ending) (w' : World) : Prop :=
  ∃ (n : SReplica) (A5 : Option Addr) (c5 : Nat) (A7 : Option Addr) (c7 : Nat) (A8 : Option Addr) (c8 : Nat) (A9 : Option Addr) (c9 : Nat) (f5 f7 f8 f9 : List Nat), r = .returned (.agg #[.int .i64 n.Id, .int .i64 n.Size, .int .i64 n.View, .bool n.Normal, .int .i64 n.Last, .slice A5 n.Log.length c5, .int .i64 n.Commit, .slice A7 n.Oks.length c7, .slice A8 n.Asks.length c8, .slice A9 n.Doers.length c9]) ∧ HasReplica w.heap.size w' n A5 c5 A7 c7 A8 c8 A9 c9 f5 f7 f8 f9 ∧ LooseB n ∧ SrcTo w0 g A len c M w' ∧ Turn [g] w w'
set_option maxRecDepth 100000 in
set_option maxHeartbeats 8000000 in
theorem l9Bent_c {w0 : World} {g : Nat} {code : List (Fin 256)} {A : Option Addr} {c M : Nat} {w : World} (hr : RdS kU8 w0 A c code) (hs : SrcTo w0 g A code.length c M w) (hm : M ≤ 890000) :
    Calls Tryz.prog 31 #[.pointer (some ⟨g, 0, none⟩)] w fun r w' => BentTo w0 g A code.length c (M + 1010) w r w' := by
  have hz : g < w.heap.size := hs.lt
  have hg0 : w0.heap.size ≤ g := hs.ge
  go_enter Tryz.func31, Tryz.ntmps31
  go_upto_region 1 with fail
  refine at_world (fun W => Blk W w.heap.size 29 [.int .i64 0, .int .i64 0, .int .i64 0, .bool false, .int .i64 0, .slice none 0 0, .int .i64 0, .slice none 0 0, .slice none 0 0, .slice none 0 0] ∧ SrcTo w0 g A code.length c M W ∧ Turn [g] w W ∧ w.heap.size + 1 ≤ W.heap.size) ⟨blk_alloc w [.int .i64 0, .int .i64 0, .int .i64 0, .bool false, .int .i64 0, .slice none 0 0, .int .i64 0, .slice none 0 0, .slice none 0 0, .slice none 0 0] _, hs.below (below_alloc (Below.refl _ _) _), (Turn.refl _ _).alloc _, by rw [Deep.nblk_alloc]; omega⟩ ?_
  clear hs
  rintro W ⟨zB, hs, hT, hW⟩
  go_wp2_with fail
  refine (l9Replica_c hr hs (by omega)).mono ?_
  rintro e w5 ⟨n, A5, c5, A7, c7, A8, c8, A9, c9, f5, f7, f8, f9, rfl, ⟨o5, o7, o8, o9, nd⟩, hL, hs5, hT1⟩
  replace hT := hT.trans hT1
  replace zB := zB.turn hT1 (by simp; omega)
  have s5 := Nat.le_trans hW hT1.size
  have i5 := o5.in
  have i7 := o7.in
  have i8 := o8.in
  have i9 := o9.in
  clear hs hT1
  go_upto_region 2 with fail
  obtain ⟨b, hb⟩ : ∃ b, b = w5.heap.size := ⟨_, rfl⟩
  refine at_world (fun W => ∃ fp, DrawSt w0 g A code.length c (M + 1000) w b n fp W) ⟨_, zB.below (below_alloc (Below.refl _ _) _), ⟨A5, c5, A7, c7, A8, c8, A9, c9, f5, f7, f8, f9, rfl, by subst hb; exact blk_alloc w5 [.int .i64 n.Id, .int .i64 n.Size, .int .i64 n.View, .bool n.Normal, .int .i64 n.Last, .slice A5 n.Log.length c5, .int .i64 n.Commit, .slice A7 n.Oks.length c7, .slice A8 n.Asks.length c8, .slice A9 n.Doers.length c9] _, ⟨OwnS.lift (OwnS.keep o5 (fun y hm => Below.heap_alloc w5 _ _ (i5 y hm).2)) (fun y hy => by have := (i5 y hy).1; omega), OwnS.lift (OwnS.keep o7 (fun y hm => Below.heap_alloc w5 _ _ (i7 y hm).2)) (fun y hy => by have := (i7 y hy).1; omega), OwnS.lift (OwnS.keep o8 (fun y hm => Below.heap_alloc w5 _ _ (i8 y hm).2)) (fun y hy => by have := (i8 y hy).1; omega), OwnS.lift (OwnS.keep o9 (fun y hm => Below.heap_alloc w5 _ _ (i9 y hm).2)) (fun y hy => by have := (i9 y hy).1; omega), nd⟩, fun hm => by
    simp only [List.mem_append] at hm
    rcases hm with h | h | h | h
    · have := (i5 _ h).2; omega
    · have := (i7 _ h).2; omega
    · have := (i8 _ h).2; omega
    · have := (i9 _ h).2; omega, rfl, by rw [Deep.nblk_alloc]; omega⟩, hs5.below (below_alloc (Below.refl _ _) _), hT.alloc _, by omega, hz, hg0⟩ ?_
  rw [← hb]
  clear zB hs5 hT s5 i5 i7 i8 i9 o5 o7 o8 o9 nd hb hW
  rintro W ⟨fp, hD⟩
  go_wp2_with fail
  refine (next_c hr hD.src (by omega) (by omega) (by omega)).mono ?_
  rintro e w6 ⟨u, rfl, ul, -, hs, hT1⟩
  replace hD := hD.turnG hT1 hs
  clear hs hT1 ul
  by_cases u0 : u = 0
  · subst u0
    go_wp2_with fail
    refine (pick_c [0, 6, 3] hr (hD.src.below (below_alloc (Below.refl _ _) _)) (by omega) (blk_alloc w6 [.int .i64 0, .int .i64 6, .int .i64 3] _) (by have := hD.2.1.bs; have := hD.2.2.2.2.2.1; omega) (by simp) (by simp)).mono ?_
    rintro e w7 ⟨v, -, rfl, hs, hT1⟩
    have hT2 : Turn [g] w6 w7 := ((Turn.refl [g] w6).alloc _).trans hT1
    replace hD := hD.turnG hT2 hs
    clear hs hT1 hT2
    obtain ⟨A5, c5, A7, c7, A8, c8, A9, c9, k0, k1, k2, k3, k4, k5, k6, k7, k8, k9, h5, h7, h8, h9⟩ := atReplica (hD.rep).at
    clear h5 h7 h8 h9 k0 k2 k3 k4 k5 k6 k7 k8 k9
    simp only [Nat.zero_add, Nat.add_zero] at k1
    have z1 := (hD.rep).frozen 1
    simp only [Nat.zero_add] at z1
    go_upto_region 18 with fail
    refine at_world (fun W => ∃ n, DrawSt w0 g A code.length c (M + 1002) w b n fp W ∧ LooseB n) ⟨_, (hD.put (hD.rep.setSize _)).mono (by omega), hL.wide⟩ ?_
    clear hD hL k1 z1
    rintro W ⟨n, hD, hL⟩
    obtain ⟨A5, c5, A7, c7, A8, c8, A9, c9, f5, f7, f8, f9, hB, TT⟩ := hD.fin
    have hZ := hD.1
    have hzl := hZ.lt
    have hbz : b ≠ w.heap.size := by have := hD.2.2.2.2.1; omega
    replace TT := Lib.hid TT
    have hLL := Lib.hid hL
    clear hD hL
    have k0 := hB.cell (j := 0) rfl
    have k1 := hB.cell (j := 1) rfl
    have k2 := hB.cell (j := 2) rfl
    have k3 := hB.cell (j := 3) rfl
    have k4 := hB.cell (j := 4) rfl
    have k5 := hB.cell (j := 5) rfl
    have k6 := hB.cell (j := 6) rfl
    have k7 := hB.cell (j := 7) rfl
    have k8 := hB.cell (j := 8) rfl
    have k9 := hB.cell (j := 9) rfl
    have r0 := hZ.cell (j := 0) rfl
    have y0 := hZ.frozen 0
    have r1 := hZ.cell (j := 1) rfl
    have y1 := hZ.frozen 1
    have r2 := hZ.cell (j := 2) rfl
    have y2 := hZ.frozen 2
    have r3 := hZ.cell (j := 3) rfl
    have y3 := hZ.frozen 3
    have r4 := hZ.cell (j := 4) rfl
    have y4 := hZ.frozen 4
    have r5 := hZ.cell (j := 5) rfl
    have y5 := hZ.frozen 5
    have r6 := hZ.cell (j := 6) rfl
    have y6 := hZ.frozen 6
    have r7 := hZ.cell (j := 7) rfl
    have y7 := hZ.frozen 7
    have r8 := hZ.cell (j := 8) rfl
    have y8 := hZ.frozen 8
    have r9 := hZ.cell (j := 9) rfl
    have y9 := hZ.frozen 9
    clear hB hZ
    go_wp2_with fail
    refine bodyPost_ret (v := .agg #[.int .i64 n.Id, .int .i64 n.Size, .int .i64 n.View, .bool n.Normal, .int .i64 n.Last, .slice A5 n.Log.length c5, .int .i64 n.Commit, .slice A7 n.Oks.length c7, .slice A8 n.Asks.length c8, .slice A9 n.Doers.length c9]) (by simp [results, Tryz.results31, go_sem, r0, r1, r2, r3, r4, r5, r6, r7, r8, r9]) rfl ⟨n, A5, c5, A7, c7, A8, c8, A9, c9, f5, f7, f8, f9, rfl, (TT.out _ ?_).1, hLL.out, (TT.out _ ?_).2.1.mono (by omega), (TT.out _ ?_).2.2⟩
    all_goals (repeat (first | (with_reducible exact Turn.refl _ _) | (with_reducible refine Turn.set ?_ (by simp) _)))
  have e0 : ((u : Int) == 0) = false := beq_eq_false_iff_ne.2 (by omega)
  by_cases u1 : u = 1
  · subst u1
    go_wp2_with fail
    refine (pick_c [-1, 200, 201] hr (hD.src.below (below_alloc (Below.refl _ _) _)) (by omega) (blk_alloc w6 [.int .i64 (-1), .int .i64 200, .int .i64 201] _) (by have := hD.2.1.bs; have := hD.2.2.2.2.2.1; omega) (by simp) (by simp)).mono ?_
    rintro e w7 ⟨v, -, rfl, hs, hT1⟩
    have hT2 : Turn [g] w6 w7 := ((Turn.refl [g] w6).alloc _).trans hT1
    replace hD := hD.turnG hT2 hs
    clear hs hT1 hT2
    obtain ⟨A5, c5, A7, c7, A8, c8, A9, c9, k0, k1, k2, k3, k4, k5, k6, k7, k8, k9, h5, h7, h8, h9⟩ := atReplica (hD.rep).at
    clear h5 h7 h8 h9 k0 k1 k3 k4 k5 k6 k7 k8 k9
    simp only [Nat.zero_add, Nat.add_zero] at k2
    have z2 := (hD.rep).frozen 2
    simp only [Nat.zero_add] at z2
    go_upto_region 18 with fail
    refine at_world (fun W => ∃ n, DrawSt w0 g A code.length c (M + 1002) w b n fp W ∧ LooseB n) ⟨_, (hD.put (hD.rep.setView _)).mono (by omega), hL.wide⟩ ?_
    clear hD hL k2 z2
    rintro W ⟨n, hD, hL⟩
    obtain ⟨A5, c5, A7, c7, A8, c8, A9, c9, f5, f7, f8, f9, hB, TT⟩ := hD.fin
    have hZ := hD.1
    have hzl := hZ.lt
    have hbz : b ≠ w.heap.size := by have := hD.2.2.2.2.1; omega
    replace TT := Lib.hid TT
    have hLL := Lib.hid hL
    clear hD hL
    have k0 := hB.cell (j := 0) rfl
    have k1 := hB.cell (j := 1) rfl
    have k2 := hB.cell (j := 2) rfl
    have k3 := hB.cell (j := 3) rfl
    have k4 := hB.cell (j := 4) rfl
    have k5 := hB.cell (j := 5) rfl
    have k6 := hB.cell (j := 6) rfl
    have k7 := hB.cell (j := 7) rfl
    have k8 := hB.cell (j := 8) rfl
    have k9 := hB.cell (j := 9) rfl
    have r0 := hZ.cell (j := 0) rfl
    have y0 := hZ.frozen 0
    have r1 := hZ.cell (j := 1) rfl
    have y1 := hZ.frozen 1
    have r2 := hZ.cell (j := 2) rfl
    have y2 := hZ.frozen 2
    have r3 := hZ.cell (j := 3) rfl
    have y3 := hZ.frozen 3
    have r4 := hZ.cell (j := 4) rfl
    have y4 := hZ.frozen 4
    have r5 := hZ.cell (j := 5) rfl
    have y5 := hZ.frozen 5
    have r6 := hZ.cell (j := 6) rfl
    have y6 := hZ.frozen 6
    have r7 := hZ.cell (j := 7) rfl
    have y7 := hZ.frozen 7
    have r8 := hZ.cell (j := 8) rfl
    have y8 := hZ.frozen 8
    have r9 := hZ.cell (j := 9) rfl
    have y9 := hZ.frozen 9
    clear hB hZ
    go_wp2_with fail
    refine bodyPost_ret (v := .agg #[.int .i64 n.Id, .int .i64 n.Size, .int .i64 n.View, .bool n.Normal, .int .i64 n.Last, .slice A5 n.Log.length c5, .int .i64 n.Commit, .slice A7 n.Oks.length c7, .slice A8 n.Asks.length c8, .slice A9 n.Doers.length c9]) (by simp [results, Tryz.results31, go_sem, r0, r1, r2, r3, r4, r5, r6, r7, r8, r9]) rfl ⟨n, A5, c5, A7, c7, A8, c8, A9, c9, f5, f7, f8, f9, rfl, (TT.out _ ?_).1, hLL.out, (TT.out _ ?_).2.1.mono (by omega), (TT.out _ ?_).2.2⟩
    all_goals (repeat (first | (with_reducible exact Turn.refl _ _) | (with_reducible refine Turn.set ?_ (by simp) _)))
  have e1 : ((u : Int) == 1) = false := beq_eq_false_iff_ne.2 (by omega)
  by_cases u2 : u = 2
  · subst u2
    go_wp2_with fail
    refine (pick_c [-1, 9] hr (hD.src.below (below_alloc (Below.refl _ _) _)) (by omega) (blk_alloc w6 [.int .i64 (-1), .int .i64 9] _) (by have := hD.2.1.bs; have := hD.2.2.2.2.2.1; omega) (by simp) (by simp)).mono ?_
    rintro e w7 ⟨v, -, rfl, hs, hT1⟩
    have hT2 : Turn [g] w6 w7 := ((Turn.refl [g] w6).alloc _).trans hT1
    replace hD := hD.turnG hT2 hs
    clear hs hT1 hT2
    obtain ⟨A5, c5, A7, c7, A8, c8, A9, c9, k0, k1, k2, k3, k4, k5, k6, k7, k8, k9, h5, h7, h8, h9⟩ := atReplica (hD.rep).at
    clear h5 h7 h8 h9 k0 k1 k2 k3 k5 k6 k7 k8 k9
    simp only [Nat.zero_add, Nat.add_zero] at k4
    have z4 := (hD.rep).frozen 4
    simp only [Nat.zero_add] at z4
    go_upto_region 18 with fail
    refine at_world (fun W => ∃ n, DrawSt w0 g A code.length c (M + 1002) w b n fp W ∧ LooseB n) ⟨_, (hD.put (hD.rep.setLast _)).mono (by omega), hL.wide⟩ ?_
    clear hD hL k4 z4
    rintro W ⟨n, hD, hL⟩
    obtain ⟨A5, c5, A7, c7, A8, c8, A9, c9, f5, f7, f8, f9, hB, TT⟩ := hD.fin
    have hZ := hD.1
    have hzl := hZ.lt
    have hbz : b ≠ w.heap.size := by have := hD.2.2.2.2.1; omega
    replace TT := Lib.hid TT
    have hLL := Lib.hid hL
    clear hD hL
    have k0 := hB.cell (j := 0) rfl
    have k1 := hB.cell (j := 1) rfl
    have k2 := hB.cell (j := 2) rfl
    have k3 := hB.cell (j := 3) rfl
    have k4 := hB.cell (j := 4) rfl
    have k5 := hB.cell (j := 5) rfl
    have k6 := hB.cell (j := 6) rfl
    have k7 := hB.cell (j := 7) rfl
    have k8 := hB.cell (j := 8) rfl
    have k9 := hB.cell (j := 9) rfl
    have r0 := hZ.cell (j := 0) rfl
    have y0 := hZ.frozen 0
    have r1 := hZ.cell (j := 1) rfl
    have y1 := hZ.frozen 1
    have r2 := hZ.cell (j := 2) rfl
    have y2 := hZ.frozen 2
    have r3 := hZ.cell (j := 3) rfl
    have y3 := hZ.frozen 3
    have r4 := hZ.cell (j := 4) rfl
    have y4 := hZ.frozen 4
    have r5 := hZ.cell (j := 5) rfl
    have y5 := hZ.frozen 5
    have r6 := hZ.cell (j := 6) rfl
    have y6 := hZ.frozen 6
    have r7 := hZ.cell (j := 7) rfl
    have y7 := hZ.frozen 7
    have r8 := hZ.cell (j := 8) rfl
    have y8 := hZ.frozen 8
    have r9 := hZ.cell (j := 9) rfl
    have y9 := hZ.frozen 9
    clear hB hZ
    go_wp2_with fail
    refine bodyPost_ret (v := .agg #[.int .i64 n.Id, .int .i64 n.Size, .int .i64 n.View, .bool n.Normal, .int .i64 n.Last, .slice A5 n.Log.length c5, .int .i64 n.Commit, .slice A7 n.Oks.length c7, .slice A8 n.Asks.length c8, .slice A9 n.Doers.length c9]) (by simp [results, Tryz.results31, go_sem, r0, r1, r2, r3, r4, r5, r6, r7, r8, r9]) rfl ⟨n, A5, c5, A7, c7, A8, c8, A9, c9, f5, f7, f8, f9, rfl, (TT.out _ ?_).1, hLL.out, (TT.out _ ?_).2.1.mono (by omega), (TT.out _ ?_).2.2⟩
    all_goals (repeat (first | (with_reducible exact Turn.refl _ _) | (with_reducible refine Turn.set ?_ (by simp) _)))
  have e2 : ((u : Int) == 2) = false := beq_eq_false_iff_ne.2 (by omega)
  by_cases u3 : u = 3
  · subst u3
    go_wp2_with fail
    refine (pick_c [-1, 41] hr (hD.src.below (below_alloc (Below.refl _ _) _)) (by omega) (blk_alloc w6 [.int .i64 (-1), .int .i64 41] _) (by have := hD.2.1.bs; have := hD.2.2.2.2.2.1; omega) (by simp) (by simp)).mono ?_
    rintro e w7 ⟨v, -, rfl, hs, hT1⟩
    have hT2 : Turn [g] w6 w7 := ((Turn.refl [g] w6).alloc _).trans hT1
    replace hD := hD.turnG hT2 hs
    clear hs hT1 hT2
    obtain ⟨A5, c5, A7, c7, A8, c8, A9, c9, k0, k1, k2, k3, k4, k5, k6, k7, k8, k9, h5, h7, h8, h9⟩ := atReplica (hD.rep).at
    clear h5 h7 h8 h9 k0 k1 k2 k3 k4 k5 k7 k8 k9
    simp only [Nat.zero_add, Nat.add_zero] at k6
    have z6 := (hD.rep).frozen 6
    simp only [Nat.zero_add] at z6
    go_upto_region 18 with fail
    refine at_world (fun W => ∃ n, DrawSt w0 g A code.length c (M + 1002) w b n fp W ∧ LooseB n) ⟨_, (hD.put (hD.rep.setCommit _)).mono (by omega), hL.wide⟩ ?_
    clear hD hL k6 z6
    rintro W ⟨n, hD, hL⟩
    obtain ⟨A5, c5, A7, c7, A8, c8, A9, c9, f5, f7, f8, f9, hB, TT⟩ := hD.fin
    have hZ := hD.1
    have hzl := hZ.lt
    have hbz : b ≠ w.heap.size := by have := hD.2.2.2.2.1; omega
    replace TT := Lib.hid TT
    have hLL := Lib.hid hL
    clear hD hL
    have k0 := hB.cell (j := 0) rfl
    have k1 := hB.cell (j := 1) rfl
    have k2 := hB.cell (j := 2) rfl
    have k3 := hB.cell (j := 3) rfl
    have k4 := hB.cell (j := 4) rfl
    have k5 := hB.cell (j := 5) rfl
    have k6 := hB.cell (j := 6) rfl
    have k7 := hB.cell (j := 7) rfl
    have k8 := hB.cell (j := 8) rfl
    have k9 := hB.cell (j := 9) rfl
    have r0 := hZ.cell (j := 0) rfl
    have y0 := hZ.frozen 0
    have r1 := hZ.cell (j := 1) rfl
    have y1 := hZ.frozen 1
    have r2 := hZ.cell (j := 2) rfl
    have y2 := hZ.frozen 2
    have r3 := hZ.cell (j := 3) rfl
    have y3 := hZ.frozen 3
    have r4 := hZ.cell (j := 4) rfl
    have y4 := hZ.frozen 4
    have r5 := hZ.cell (j := 5) rfl
    have y5 := hZ.frozen 5
    have r6 := hZ.cell (j := 6) rfl
    have y6 := hZ.frozen 6
    have r7 := hZ.cell (j := 7) rfl
    have y7 := hZ.frozen 7
    have r8 := hZ.cell (j := 8) rfl
    have y8 := hZ.frozen 8
    have r9 := hZ.cell (j := 9) rfl
    have y9 := hZ.frozen 9
    clear hB hZ
    go_wp2_with fail
    refine bodyPost_ret (v := .agg #[.int .i64 n.Id, .int .i64 n.Size, .int .i64 n.View, .bool n.Normal, .int .i64 n.Last, .slice A5 n.Log.length c5, .int .i64 n.Commit, .slice A7 n.Oks.length c7, .slice A8 n.Asks.length c8, .slice A9 n.Doers.length c9]) (by simp [results, Tryz.results31, go_sem, r0, r1, r2, r3, r4, r5, r6, r7, r8, r9]) rfl ⟨n, A5, c5, A7, c7, A8, c8, A9, c9, f5, f7, f8, f9, rfl, (TT.out _ ?_).1, hLL.out, (TT.out _ ?_).2.1.mono (by omega), (TT.out _ ?_).2.2⟩
    all_goals (repeat (first | (with_reducible exact Turn.refl _ _) | (with_reducible refine Turn.set ?_ (by simp) _)))
  have e3 : ((u : Int) == 3) = false := beq_eq_false_iff_ne.2 (by omega)
  by_cases u4 : u = 4
  · subst u4
    obtain ⟨AO, cO, fO, x7, oO, nO, sO, grow⟩ := hD.rep.growOks
    simp only [Nat.zero_add] at x7
    have z7 := (hD.rep).frozen 7
    simp only [Nat.zero_add] at z7
    obtain ⟨B5, d5, B7, d7, B8, d8, B9, d9, q5, q7, q8, q9, bB0, -⟩ := hD.fin
    have hbO : b ∉ fO := fun hm => hD.rep.nb (sO b hm)
    have OW := oO.keep (w' := w6.alloc (.cells #[.int .i64 0] 2)) (fun y hm => Below.heap_alloc w6 _ _ (oO.in y hm).2)
    have bB := bB0.below (below_alloc (Below.refl _ _) (.cells #[.int .i64 0] 2))
    have hol : n.Oks.length ≤ 6 := hL.2.1
    have bs6 := hD.rep.bs
    go_upto_region 18 with (refine wpList_appFlat (d := kInt) (zs := [0]) (ys := n.Oks) (fp := fO) (A := some ⟨w6.heap.size, 0, none⟩) (c := 1) (v := .slice AO n.Oks.length cO) (B := w.heap.size + 1) rfl (.tmp 35) (.tmp 36) 25 2 rfl (by kernel_rfl) (by kernel_rfl) flat_int (by simp [Act.eval, Act.put]) (by simp [Act.eval, Act.put]) OW nO (rdS_oneI w6 0) (by simp; omega) (by rw [Deep.nblk_alloc]; omega) ?_; intro v' w' fp' hgr; obtain ⟨AA, cA, rfl, _⟩ := hgr.1.form; have yB := bB.turn hgr.2.2.1 hbO; have x7' := yB.cell (j := 7) rfl; have z7' := yB.frozen 7)
    obtain ⟨fp2, hR2, hf2⟩ := grow _ _ [g] [] _ _ _ _ ((Turn.refl [g] w6).alloc _) hD.ng.1 hD.ng.2 (by simp) hgr
    have T6 := (((Turn.refl (b :: fp) w6).alloc (.cells #[.int .i64 0] 2)).trans (hgr.2.2.1.mono (fun y hy => List.mem_cons_of_mem _ (sO y hy)))).set (p := ⟨b, 7, none⟩) (by simp) (.slice AA (n.Oks ++ [0]).length cA)
    have hD7 := hD.move T6 hR2
    rw [show (n.Oks ++ [(0 : Int)]).length = n.Oks.length + 1 by simp] at hD7
    refine at_world (fun W => ∃ n fp, DrawSt w0 g A code.length c (M + 1002) w b n fp W ∧ LooseB n) ⟨_, fp2, hD7.mono (by omega), ⟨hL.1, by simp; omega, hL.2.2.1, hL.2.2.2⟩⟩ ?_
    clear hD hL hD7 x7 z7 OW bB bB0 hR2 T6 grow hgr yB x7' z7' oO nO sO hf2
    rintro W ⟨n, fp, hD, hL⟩
    obtain ⟨A5, c5, A7, c7, A8, c8, A9, c9, f5, f7, f8, f9, hB, TT⟩ := hD.fin
    have hZ := hD.1
    have hzl := hZ.lt
    have hbz : b ≠ w.heap.size := by have := hD.2.2.2.2.1; omega
    replace TT := Lib.hid TT
    have hLL := Lib.hid hL
    clear hD hL
    have k0 := hB.cell (j := 0) rfl
    have k1 := hB.cell (j := 1) rfl
    have k2 := hB.cell (j := 2) rfl
    have k3 := hB.cell (j := 3) rfl
    have k4 := hB.cell (j := 4) rfl
    have k5 := hB.cell (j := 5) rfl
    have k6 := hB.cell (j := 6) rfl
    have k7 := hB.cell (j := 7) rfl
    have k8 := hB.cell (j := 8) rfl
    have k9 := hB.cell (j := 9) rfl
    have r0 := hZ.cell (j := 0) rfl
    have y0 := hZ.frozen 0
    have r1 := hZ.cell (j := 1) rfl
    have y1 := hZ.frozen 1
    have r2 := hZ.cell (j := 2) rfl
    have y2 := hZ.frozen 2
    have r3 := hZ.cell (j := 3) rfl
    have y3 := hZ.frozen 3
    have r4 := hZ.cell (j := 4) rfl
    have y4 := hZ.frozen 4
    have r5 := hZ.cell (j := 5) rfl
    have y5 := hZ.frozen 5
    have r6 := hZ.cell (j := 6) rfl
    have y6 := hZ.frozen 6
    have r7 := hZ.cell (j := 7) rfl
    have y7 := hZ.frozen 7
    have r8 := hZ.cell (j := 8) rfl
    have y8 := hZ.frozen 8
    have r9 := hZ.cell (j := 9) rfl
    have y9 := hZ.frozen 9
    clear hB hZ
    go_wp2_with fail
    refine bodyPost_ret (v := .agg #[.int .i64 n.Id, .int .i64 n.Size, .int .i64 n.View, .bool n.Normal, .int .i64 n.Last, .slice A5 n.Log.length c5, .int .i64 n.Commit, .slice A7 n.Oks.length c7, .slice A8 n.Asks.length c8, .slice A9 n.Doers.length c9]) (by simp [results, Tryz.results31, go_sem, r0, r1, r2, r3, r4, r5, r6, r7, r8, r9]) rfl ⟨n, A5, c5, A7, c7, A8, c8, A9, c9, f5, f7, f8, f9, rfl, (TT.out _ ?_).1, hLL.out, (TT.out _ ?_).2.1.mono (by omega), (TT.out _ ?_).2.2⟩
    all_goals (repeat (first | (with_reducible exact Turn.refl _ _) | (with_reducible refine Turn.set ?_ (by simp) _)))
  have e4 : ((u : Int) == 4) = false := beq_eq_false_iff_ne.2 (by omega)
  by_cases u5 : u = 5
  · subst u5
    obtain ⟨A5, c5, A7, c7, A8, c8, A9, c9, k0, k1, k2, k3, k4, k5, k6, k7, k8, k9, h5, h7, h8, h9⟩ := atReplica (hD.rep).at
    clear h5 h7 h8 h9 k0 k1 k2 k4 k5 k6 k7 k8 k9
    simp only [Nat.zero_add, Nat.add_zero] at k3
    have z3 := (hD.rep).frozen 3
    simp only [Nat.zero_add] at z3
    go_upto_region 18 with fail
    refine at_world (fun W => ∃ n, DrawSt w0 g A code.length c (M + 1002) w b n fp W ∧ LooseB n) ⟨_, (hD.put (hD.rep.setNormal _)).mono (by omega), hL.wide⟩ ?_
    clear hD hL k3 z3
    rintro W ⟨n, hD, hL⟩
    obtain ⟨A5, c5, A7, c7, A8, c8, A9, c9, f5, f7, f8, f9, hB, TT⟩ := hD.fin
    have hZ := hD.1
    have hzl := hZ.lt
    have hbz : b ≠ w.heap.size := by have := hD.2.2.2.2.1; omega
    replace TT := Lib.hid TT
    have hLL := Lib.hid hL
    clear hD hL
    have k0 := hB.cell (j := 0) rfl
    have k1 := hB.cell (j := 1) rfl
    have k2 := hB.cell (j := 2) rfl
    have k3 := hB.cell (j := 3) rfl
    have k4 := hB.cell (j := 4) rfl
    have k5 := hB.cell (j := 5) rfl
    have k6 := hB.cell (j := 6) rfl
    have k7 := hB.cell (j := 7) rfl
    have k8 := hB.cell (j := 8) rfl
    have k9 := hB.cell (j := 9) rfl
    have r0 := hZ.cell (j := 0) rfl
    have y0 := hZ.frozen 0
    have r1 := hZ.cell (j := 1) rfl
    have y1 := hZ.frozen 1
    have r2 := hZ.cell (j := 2) rfl
    have y2 := hZ.frozen 2
    have r3 := hZ.cell (j := 3) rfl
    have y3 := hZ.frozen 3
    have r4 := hZ.cell (j := 4) rfl
    have y4 := hZ.frozen 4
    have r5 := hZ.cell (j := 5) rfl
    have y5 := hZ.frozen 5
    have r6 := hZ.cell (j := 6) rfl
    have y6 := hZ.frozen 6
    have r7 := hZ.cell (j := 7) rfl
    have y7 := hZ.frozen 7
    have r8 := hZ.cell (j := 8) rfl
    have y8 := hZ.frozen 8
    have r9 := hZ.cell (j := 9) rfl
    have y9 := hZ.frozen 9
    clear hB hZ
    go_wp2_with fail
    refine bodyPost_ret (v := .agg #[.int .i64 n.Id, .int .i64 n.Size, .int .i64 n.View, .bool n.Normal, .int .i64 n.Last, .slice A5 n.Log.length c5, .int .i64 n.Commit, .slice A7 n.Oks.length c7, .slice A8 n.Asks.length c8, .slice A9 n.Doers.length c9]) (by simp [results, Tryz.results31, go_sem, r0, r1, r2, r3, r4, r5, r6, r7, r8, r9]) rfl ⟨n, A5, c5, A7, c7, A8, c8, A9, c9, f5, f7, f8, f9, rfl, (TT.out _ ?_).1, hLL.out, (TT.out _ ?_).2.1.mono (by omega), (TT.out _ ?_).2.2⟩
    all_goals (repeat (first | (with_reducible exact Turn.refl _ _) | (with_reducible refine Turn.set ?_ (by simp) _)))
  have e5 : ((u : Int) == 5) = false := beq_eq_false_iff_ne.2 (by omega)
  by_cases u6 : u = 6
  · subst u6
    cases hds : n.Doers with
    | nil =>
      obtain ⟨A5, c5, A7, c7, A8, c8, A9, c9, k0, k1, k2, k3, k4, k5, k6, k7, k8, k9, h5, h7, h8, h9⟩ := atReplica (hD.rep).at
      clear h5 h7 h8 h9 k0 k1 k2 k3 k4 k5 k6 k7 k8
      simp only [Nat.zero_add, Nat.add_zero] at k9
      rw [hds] at k9
      go_upto_region 18 with fail
      refine at_world (fun W => DrawSt w0 g A code.length c (M + 1001) w b n fp W) hD ?_
      clear hD k9
      rintro W hD
      replace hL := hL.wide
      clear hds
      obtain ⟨A5, c5, A7, c7, A8, c8, A9, c9, f5, f7, f8, f9, hB, TT⟩ := hD.fin
      have hZ := hD.1
      have hzl := hZ.lt
      have hbz : b ≠ w.heap.size := by have := hD.2.2.2.2.1; omega
      replace TT := Lib.hid TT
      have hLL := Lib.hid hL
      clear hD hL
      have k0 := hB.cell (j := 0) rfl
      have k1 := hB.cell (j := 1) rfl
      have k2 := hB.cell (j := 2) rfl
      have k3 := hB.cell (j := 3) rfl
      have k4 := hB.cell (j := 4) rfl
      have k5 := hB.cell (j := 5) rfl
      have k6 := hB.cell (j := 6) rfl
      have k7 := hB.cell (j := 7) rfl
      have k8 := hB.cell (j := 8) rfl
      have k9 := hB.cell (j := 9) rfl
      have r0 := hZ.cell (j := 0) rfl
      have y0 := hZ.frozen 0
      have r1 := hZ.cell (j := 1) rfl
      have y1 := hZ.frozen 1
      have r2 := hZ.cell (j := 2) rfl
      have y2 := hZ.frozen 2
      have r3 := hZ.cell (j := 3) rfl
      have y3 := hZ.frozen 3
      have r4 := hZ.cell (j := 4) rfl
      have y4 := hZ.frozen 4
      have r5 := hZ.cell (j := 5) rfl
      have y5 := hZ.frozen 5
      have r6 := hZ.cell (j := 6) rfl
      have y6 := hZ.frozen 6
      have r7 := hZ.cell (j := 7) rfl
      have y7 := hZ.frozen 7
      have r8 := hZ.cell (j := 8) rfl
      have y8 := hZ.frozen 8
      have r9 := hZ.cell (j := 9) rfl
      have y9 := hZ.frozen 9
      clear hB hZ
      go_wp2_with fail
      refine bodyPost_ret (v := .agg #[.int .i64 n.Id, .int .i64 n.Size, .int .i64 n.View, .bool n.Normal, .int .i64 n.Last, .slice A5 n.Log.length c5, .int .i64 n.Commit, .slice A7 n.Oks.length c7, .slice A8 n.Asks.length c8, .slice A9 n.Doers.length c9]) (by simp [results, Tryz.results31, go_sem, r0, r1, r2, r3, r4, r5, r6, r7, r8, r9]) rfl ⟨n, A5, c5, A7, c7, A8, c8, A9, c9, f5, f7, f8, f9, rfl, (TT.out _ ?_).1, hLL.out, (TT.out _ ?_).2.1.mono (by omega), (TT.out _ ?_).2.2⟩
      all_goals (repeat (first | (with_reducible exact Turn.refl _ _) | (with_reducible refine Turn.set ?_ (by simp) _)))
    | cons d ds =>
      obtain ⟨gd, cd, x9, hgd, x3, z3, hw⟩ := hD.rep.writeDoer0 hds
      simp only [Nat.zero_add] at x9
      have hpos : ((n.Doers.length : Int) > 0) := by rw [hds]; simp
      have hlp : 0 < n.Doers.length := by rw [hds]; simp
      have hl5 : n.Doers.length ≤ 5 := hL.2.2.2
      have hdd := Lib.hid hds
      clear hds
      go_upto_region 18 with fail
      have T6 := (Turn.refl (b :: fp) w6).set (p := ⟨gd, 3, none⟩) (by simp [hgd]) (.int .i64 9)
      refine at_world (fun W => ∃ n, DrawSt w0 g A code.length c (M + 1001) w b n fp W ∧ LooseB n) ⟨_, hD.move T6 (hw 9), ⟨hL.1, Nat.le_succ_of_le hL.2.1, hL.2.2.1, by have := hdd.out; rw [this] at hl5; simpa using hl5⟩⟩ ?_
      clear hD hL x9 x3 z3 hw T6
      rintro W ⟨n, hD, hL⟩
      obtain ⟨A5, c5, A7, c7, A8, c8, A9, c9, f5, f7, f8, f9, hB, TT⟩ := hD.fin
      have hZ := hD.1
      have hzl := hZ.lt
      have hbz : b ≠ w.heap.size := by have := hD.2.2.2.2.1; omega
      replace TT := Lib.hid TT
      have hLL := Lib.hid hL
      clear hD hL
      have k0 := hB.cell (j := 0) rfl
      have k1 := hB.cell (j := 1) rfl
      have k2 := hB.cell (j := 2) rfl
      have k3 := hB.cell (j := 3) rfl
      have k4 := hB.cell (j := 4) rfl
      have k5 := hB.cell (j := 5) rfl
      have k6 := hB.cell (j := 6) rfl
      have k7 := hB.cell (j := 7) rfl
      have k8 := hB.cell (j := 8) rfl
      have k9 := hB.cell (j := 9) rfl
      have r0 := hZ.cell (j := 0) rfl
      have y0 := hZ.frozen 0
      have r1 := hZ.cell (j := 1) rfl
      have y1 := hZ.frozen 1
      have r2 := hZ.cell (j := 2) rfl
      have y2 := hZ.frozen 2
      have r3 := hZ.cell (j := 3) rfl
      have y3 := hZ.frozen 3
      have r4 := hZ.cell (j := 4) rfl
      have y4 := hZ.frozen 4
      have r5 := hZ.cell (j := 5) rfl
      have y5 := hZ.frozen 5
      have r6 := hZ.cell (j := 6) rfl
      have y6 := hZ.frozen 6
      have r7 := hZ.cell (j := 7) rfl
      have y7 := hZ.frozen 7
      have r8 := hZ.cell (j := 8) rfl
      have y8 := hZ.frozen 8
      have r9 := hZ.cell (j := 9) rfl
      have y9 := hZ.frozen 9
      clear hB hZ
      go_wp2_with fail
      refine bodyPost_ret (v := .agg #[.int .i64 n.Id, .int .i64 n.Size, .int .i64 n.View, .bool n.Normal, .int .i64 n.Last, .slice A5 n.Log.length c5, .int .i64 n.Commit, .slice A7 n.Oks.length c7, .slice A8 n.Asks.length c8, .slice A9 n.Doers.length c9]) (by simp [results, Tryz.results31, go_sem, r0, r1, r2, r3, r4, r5, r6, r7, r8, r9]) rfl ⟨n, A5, c5, A7, c7, A8, c8, A9, c9, f5, f7, f8, f9, rfl, (TT.out _ ?_).1, hLL.out, (TT.out _ ?_).2.1.mono (by omega), (TT.out _ ?_).2.2⟩
      all_goals (repeat (first | (with_reducible exact Turn.refl _ _) | (with_reducible refine Turn.set ?_ (by simp) _)))
  have e6 : ((u : Int) == 6) = false := beq_eq_false_iff_ne.2 (by omega)
  go_upto_region 18 with fail
  refine at_world (fun W => DrawSt w0 g A code.length c (M + 1001) w b n fp W) hD ?_
  clear hD
  rintro W hD
  replace hL := hL.wide
  obtain ⟨A5, c5, A7, c7, A8, c8, A9, c9, f5, f7, f8, f9, hB, TT⟩ := hD.fin
  have hZ := hD.1
  have hzl := hZ.lt
  have hbz : b ≠ w.heap.size := by have := hD.2.2.2.2.1; omega
  replace TT := Lib.hid TT
  have hLL := Lib.hid hL
  clear hD hL
  have k0 := hB.cell (j := 0) rfl
  have k1 := hB.cell (j := 1) rfl
  have k2 := hB.cell (j := 2) rfl
  have k3 := hB.cell (j := 3) rfl
  have k4 := hB.cell (j := 4) rfl
  have k5 := hB.cell (j := 5) rfl
  have k6 := hB.cell (j := 6) rfl
  have k7 := hB.cell (j := 7) rfl
  have k8 := hB.cell (j := 8) rfl
  have k9 := hB.cell (j := 9) rfl
  have r0 := hZ.cell (j := 0) rfl
  have y0 := hZ.frozen 0
  have r1 := hZ.cell (j := 1) rfl
  have y1 := hZ.frozen 1
  have r2 := hZ.cell (j := 2) rfl
  have y2 := hZ.frozen 2
  have r3 := hZ.cell (j := 3) rfl
  have y3 := hZ.frozen 3
  have r4 := hZ.cell (j := 4) rfl
  have y4 := hZ.frozen 4
  have r5 := hZ.cell (j := 5) rfl
  have y5 := hZ.frozen 5
  have r6 := hZ.cell (j := 6) rfl
  have y6 := hZ.frozen 6
  have r7 := hZ.cell (j := 7) rfl
  have y7 := hZ.frozen 7
  have r8 := hZ.cell (j := 8) rfl
  have y8 := hZ.frozen 8
  have r9 := hZ.cell (j := 9) rfl
  have y9 := hZ.frozen 9
  clear hB hZ
  go_wp2_with fail
  refine bodyPost_ret (v := .agg #[.int .i64 n.Id, .int .i64 n.Size, .int .i64 n.View, .bool n.Normal, .int .i64 n.Last, .slice A5 n.Log.length c5, .int .i64 n.Commit, .slice A7 n.Oks.length c7, .slice A8 n.Asks.length c8, .slice A9 n.Doers.length c9]) (by simp [results, Tryz.results31, go_sem, r0, r1, r2, r3, r4, r5, r6, r7, r8, r9]) rfl ⟨n, A5, c5, A7, c7, A8, c8, A9, c9, f5, f7, f8, f9, rfl, (TT.out _ ?_).1, hLL.out, (TT.out _ ?_).2.1.mono (by omega), (TT.out _ ?_).2.2⟩
  all_goals (repeat (first | (with_reducible exact Turn.refl _ _) | (with_reducible refine Turn.set ?_ (by simp) _)))
set_option maxRecDepth 100000 in
set_option maxHeartbeats 8000000 in
theorem drawCrashReplica_c (code : List (Fin 256)) (A : Option Addr) (c : Nat) (w : World) (hr : RdS kU8 w A c code) :
    Calls Tryz.prog 7 #[.slice A code.length c] w fun r w' => ∃ (n : SReplica) (A5 : Option Addr) (c5 : Nat) (A7 : Option Addr) (c7 : Nat) (A8 : Option Addr) (c8 : Nat) (A9 : Option Addr) (c9 : Nat) (f5 f7 f8 f9 : List Nat), r = .returned (.agg #[.int .i64 n.Id, .int .i64 n.Size, .int .i64 n.View, .bool n.Normal, .int .i64 n.Last, .slice A5 n.Log.length c5, .int .i64 n.Commit, .slice A7 n.Oks.length c7, .slice A8 n.Asks.length c8, .slice A9 n.Doers.length c9]) ∧ HasReplica w.heap.size w' n A5 c5 A7 c7 A8 c8 A9 c9 f5 f7 f8 f9 ∧ LooseB n ∧ Below w.heap.size w w' := by
  have hr0 := hr
  go_enter Tryz.func7, Tryz.ntmps7
  go_upto_region 1 with fail
  refine at_world (fun W => Blk W w.heap.size 29 [.int .i64 0, .int .i64 0, .int .i64 0, .bool false, .int .i64 0, .slice none 0 0, .int .i64 0, .slice none 0 0, .slice none 0 0, .slice none 0 0] ∧ Below w.heap.size w W ∧ w.heap.size + 1 ≤ W.heap.size) ⟨blk_alloc w [.int .i64 0, .int .i64 0, .int .i64 0, .bool false, .int .i64 0, .slice none 0 0, .int .i64 0, .slice none 0 0, .slice none 0 0, .slice none 0 0] _, below_alloc (Below.refl _ _) _, by rw [Deep.nblk_alloc]; omega⟩ ?_
  rintro W ⟨zB, b1, s1⟩
  go_wp2_with fail
  refine (l1Source_c code A c W).mono ?_
  rintro e w1 ⟨rfl, hs, hb1, s2⟩
  replace zB := zB.below hb1
  have hrW := hr.below b1
  go_wp2_with fail
  refine (l9Bent_c hrW ⟨0, Nat.le_refl _, hs⟩ (by omega)).mono ?_
  rintro e w2 ⟨n, A5, c5, A7, c7, A8, c8, A9, c9, f5, f7, f8, f9, rfl, ⟨o5, o7, o8, o9, nd⟩, hL, -, hT⟩
  replace zB := zB.turn hT (by simp; omega)
  have i5 := o5.in
  have i7 := o7.in
  have i8 := o8.in
  have i9 := o9.in
  have bw : Below w.heap.size w w2 := (below_trans b1 hb1).trans (hT.below (B := w.heap.size) (by simp; omega) (by omega))
  have hzl := zB.lt
  have TT := Lib.hid (fun (W' : World) (T : Turn [w.heap.size] w2 W') => (⟨⟨(o5.turn T (fun y hy => by have := (i5 y hy).1; simp; omega)).lift (fun y hy => by have := (i5 y hy).1; omega), (o7.turn T (fun y hy => by have := (i7 y hy).1; simp; omega)).lift (fun y hy => by have := (i7 y hy).1; omega), (o8.turn T (fun y hy => by have := (i8 y hy).1; simp; omega)).lift (fun y hy => by have := (i8 y hy).1; omega), (o9.turn T (fun y hy => by have := (i9 y hy).1; simp; omega)).lift (fun y hy => by have := (i9 y hy).1; omega), nd⟩, bw.trans (T.below (B := w.heap.size) (by simp) (by omega))⟩ : HasReplica w.heap.size W' n A5 c5 A7 c7 A8 c8 A9 c9 f5 f7 f8 f9 ∧ Below w.heap.size w W'))
  have hLL := Lib.hid hL
  clear hL o5 o7 o8 o9 i5 i7 i8 i9 nd hT hs hb1 b1 hr hrW bw
  have r0 := zB.cell (j := 0) rfl
  have y0 := zB.frozen 0
  have r1 := zB.cell (j := 1) rfl
  have y1 := zB.frozen 1
  have r2 := zB.cell (j := 2) rfl
  have y2 := zB.frozen 2
  have r3 := zB.cell (j := 3) rfl
  have y3 := zB.frozen 3
  have r4 := zB.cell (j := 4) rfl
  have y4 := zB.frozen 4
  have r5 := zB.cell (j := 5) rfl
  have y5 := zB.frozen 5
  have r6 := zB.cell (j := 6) rfl
  have y6 := zB.frozen 6
  have r7 := zB.cell (j := 7) rfl
  have y7 := zB.frozen 7
  have r8 := zB.cell (j := 8) rfl
  have y8 := zB.frozen 8
  have r9 := zB.cell (j := 9) rfl
  have y9 := zB.frozen 9
  clear zB
  go_wp2_with fail
  refine bodyPost_ret (v := .agg #[.int .i64 n.Id, .int .i64 n.Size, .int .i64 n.View, .bool n.Normal, .int .i64 n.Last, .slice A5 n.Log.length c5, .int .i64 n.Commit, .slice A7 n.Oks.length c7, .slice A8 n.Asks.length c8, .slice A9 n.Doers.length c9]) (by simp [results, Tryz.results7, go_sem, r0, r1, r2, r3, r4, r5, r6, r7, r8, r9]) rfl ⟨n, A5, c5, A7, c7, A8, c8, A9, c9, f5, f7, f8, f9, rfl, (TT.out _ ?_).1, hLL.out, (TT.out _ ?_).2⟩
  all_goals (repeat (first | (with_reducible exact Turn.refl _ _) | (with_reducible refine Turn.set ?_ (by simp) _)))
end Go.Proofs.YtdjfehjddfbbjaaGreat
