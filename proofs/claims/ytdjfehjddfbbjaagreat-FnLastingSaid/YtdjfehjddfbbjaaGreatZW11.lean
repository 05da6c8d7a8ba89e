/- CountAsks on both sides (written by gW11.py, own work). -/
import Derived.Test.YtdjfehjddfbbjaaGreatZO1
import Derived.Test.YtdjfehjddfbbjaaGreatZB
import Derived.Test.YtdjfehjddfbbjaaGreatZA
import Derived.Deep.RegionHeld3
set_option linter.unusedVariables false
set_option linter.unusedSimpArgs false
namespace Go.Proofs.YtdjfehjddfbbjaaGreat
open Go Go.RowKit Mk
theorem cell_farN {b d : Nat} (hp : b ≠ d) (W : World) (o k : Nat) (v : Value) : (W.setCell ⟨b, o, none⟩ v).cell? ⟨d, k, none⟩ = W.cell? ⟨d, k, none⟩ := World.cell?_setCell_far _ _ _ _ hp
def cntX (n : SReplica) : Int × Int := if (repF n != 0) then (repF n, 0) else (0, truesN n.Asks)
set_option maxRecDepth 100000 in
set_option maxHeartbeats 4000000 in
theorem counted_c (n : SReplica) (k : Int) (A5 : Option Addr) (c5 : Nat) (A7 : Option Addr) (c7 : Nat) (A8 : Option Addr) (c8 : Nat) (A9 : Option Addr) (c9 : Nat) (w : World) (h5 : RdS kEntry w A5 c5 n.Log) (h7 : RdS kInt w A7 c7 n.Oks) (h8 : RdS kBool w A8 c8 n.Asks) (h9 : RdS kDoer w A9 c9 n.Doers) :
    Calls Tryz.prog 46 #[.agg #[.int .i64 n.Id, .int .i64 n.Size, .int .i64 n.View, .bool n.Normal, .int .i64 n.Last, .slice A5 n.Log.length c5, .int .i64 n.Commit, .slice A7 n.Oks.length c7, .slice A8 n.Asks.length c8, .slice A9 n.Doers.length c9], .int .i64 k] w fun r w' => r = .returned (.agg #[.int .i64 (if (repF n != 0) then repF n else 0), .int .i64 (if (repF n != 0) then 0 else k)]) ∧ Below w.heap.size w w' := by
  have HF := Lib.hid (fun (W : World) (hW : Below w.heap.size w W) => replicaFault_c n A5 c5 A7 c7 A8 c8 A9 c9 W (h5.below hW) (h7.below hW) (h8.below hW) (h9.below hW))
  generalize repF n = cd at HF ⊢
  go_enter Tryz.func46, Tryz.ntmps46
  go_upto_region 1 with fail
  refine at_world (fun W => Blk W w.heap.size 29 [.int .i64 n.Id, .int .i64 n.Size, .int .i64 n.View, .bool n.Normal, .int .i64 n.Last, .slice A5 n.Log.length c5, .int .i64 n.Commit, .slice A7 n.Oks.length c7, .slice A8 n.Asks.length c8, .slice A9 n.Doers.length c9] ∧ Blk W (w.heap.size + 1) 38 [.int .i64 0, .int .i64 0] ∧ Below w.heap.size w W) ⟨(blk_alloc w [.int .i64 n.Id, .int .i64 n.Size, .int .i64 n.View, .bool n.Normal, .int .i64 n.Last, .slice A5 n.Log.length c5, .int .i64 n.Commit, .slice A7 n.Oks.length c7, .slice A8 n.Asks.length c8, .slice A9 n.Doers.length c9] _).below (below_alloc (Below.refl _ _) _), by have := blk_alloc (w.alloc (.cells #[.int .i64 n.Id, .int .i64 n.Size, .int .i64 n.View, .bool n.Normal, .int .i64 n.Last, .slice A5 n.Log.length c5, .int .i64 n.Commit, .slice A7 n.Oks.length c7, .slice A8 n.Asks.length c8, .slice A9 n.Doers.length c9] 29)) [.int .i64 0, .int .i64 0] 38; rwa [Deep.nblk_alloc] at this, below_alloc (below_alloc (Below.refl _ _) _) _⟩ ?_
  rintro W ⟨zB, rB, b1⟩
  have k0 := zB.cell (j := 0) rfl
  have k1 := zB.cell (j := 1) rfl
  have k2 := zB.cell (j := 2) rfl
  have k3 := zB.cell (j := 3) rfl
  have k4 := zB.cell (j := 4) rfl
  have k5 := zB.cell (j := 5) rfl
  have k6 := zB.cell (j := 6) rfl
  have k7 := zB.cell (j := 7) rfl
  have k8 := zB.cell (j := 8) rfl
  have k9 := zB.cell (j := 9) rfl
  go_wp2_with fail
  refine (HF.out W b1).mono ?_
  rintro e w1 ⟨rfl, hb⟩
  replace rB := rB.below hb
  have r0 := rB.cell (j := 0) rfl
  have y0 := rB.frozen 0
  have r1 := rB.cell (j := 1) rfl
  have y1 := rB.frozen 1
  have lr := rB.lt
  have bw := below_trans b1 hb
  clear zB rB hb b1 k0 k1 k2 k3 k4 k5 k6 k7 k8 k9 HF h5 h7 h8 h9
  cases q : (cd != 0) with
  | true =>
    go_wp2_with fail
    exact bodyPost_ret (v := .agg #[.int .i64 cd, .int .i64 0]) (by simp [results, Tryz.results46, go_sem, r0, r1]) rfl ⟨by simp, by repeat (first | (with_reducible assumption) | (with_reducible exact Below.refl _ _) | (with_reducible apply below_alloc) | (with_reducible apply below_drewN) | (with_reducible apply Below.drew) | (with_reducible refine below_set ?_ (by dsimp only; omega) _) | (with_reducible refine below_trans ?_ (by assumption)))⟩
  | false =>
    go_wp2_with fail
    exact bodyPost_ret (v := .agg #[.int .i64 0, .int .i64 k]) (by simp [results, Tryz.results46, go_sem, r0, r1]) rfl ⟨by simp, by repeat (first | (with_reducible assumption) | (with_reducible exact Below.refl _ _) | (with_reducible apply below_alloc) | (with_reducible apply below_drewN) | (with_reducible apply Below.drew) | (with_reducible refine below_set ?_ (by dsimp only; omega) _) | (with_reducible refine below_trans ?_ (by assumption)))⟩
set_option maxRecDepth 100000 in
set_option maxHeartbeats 4000000 in
theorem iCountAsks_c (n : SReplica) (A5 : Option Addr) (c5 : Nat) (A7 : Option Addr) (c7 : Nat) (A8 : Option Addr) (c8 : Nat) (A9 : Option Addr) (c9 : Nat) (w : World) (h5 : RdS kEntry w A5 c5 n.Log) (h7 : RdS kInt w A7 c7 n.Oks) (h8 : RdS kBool w A8 c8 n.Asks) (h9 : RdS kDoer w A9 c9 n.Doers) (hl : n.Asks.length ≤ 1000) :
    Calls Tryz.prog 14 #[.agg #[.int .i64 n.Id, .int .i64 n.Size, .int .i64 n.View, .bool n.Normal, .int .i64 n.Last, .slice A5 n.Log.length c5, .int .i64 n.Commit, .slice A7 n.Oks.length c7, .slice A8 n.Asks.length c8, .slice A9 n.Doers.length c9]] w fun r w' => r = .returned (.agg #[.int .i64 (cntX n).1, .int .i64 (cntX n).2]) ∧ Below w.heap.size w w' := by
  have HT := Lib.hid (fun (W : World) (hW : Below w.heap.size w W) => countTrue_c n.Asks A8 c8 W (h8.below hW) hl)
  have HC := Lib.hid (fun (W : World) (hW : Below w.heap.size w W) => counted_c n (truesN n.Asks : Nat) A5 c5 A7 c7 A8 c8 A9 c9 W (h5.below hW) (h7.below hW) (h8.below hW) (h9.below hW))
  have e1 : (if (repF n != 0) then repF n else 0) = (cntX n).1 := by unfold cntX; split <;> rfl
  have e2 : (if (repF n != 0) then (0 : Int) else (truesN n.Asks : Nat)) = (cntX n).2 := by unfold cntX; split <;> rfl
  rw [e1, e2] at HC
  generalize (cntX n).1 = v1 at HC ⊢
  generalize (cntX n).2 = v2 at HC ⊢
  generalize (truesN n.Asks : Nat) = tn at HC HT
  clear e1 e2 h5 h7 h8 h9 hl
  go_enter Tryz.func14, Tryz.ntmps14
  go_upto_region 1 with fail
  refine at_world (fun W => Blk W w.heap.size 29 [.int .i64 n.Id, .int .i64 n.Size, .int .i64 n.View, .bool n.Normal, .int .i64 n.Last, .slice A5 n.Log.length c5, .int .i64 n.Commit, .slice A7 n.Oks.length c7, .slice A8 n.Asks.length c8, .slice A9 n.Doers.length c9] ∧ Blk W (w.heap.size + 1) 38 [.int .i64 0, .int .i64 0] ∧ Below w.heap.size w W) ⟨(blk_alloc w [.int .i64 n.Id, .int .i64 n.Size, .int .i64 n.View, .bool n.Normal, .int .i64 n.Last, .slice A5 n.Log.length c5, .int .i64 n.Commit, .slice A7 n.Oks.length c7, .slice A8 n.Asks.length c8, .slice A9 n.Doers.length c9] _).below (below_alloc (Below.refl _ _) _), by have := blk_alloc (w.alloc (.cells #[.int .i64 n.Id, .int .i64 n.Size, .int .i64 n.View, .bool n.Normal, .int .i64 n.Last, .slice A5 n.Log.length c5, .int .i64 n.Commit, .slice A7 n.Oks.length c7, .slice A8 n.Asks.length c8, .slice A9 n.Doers.length c9] 29)) [.int .i64 0, .int .i64 0] 38; rwa [Deep.nblk_alloc] at this, below_alloc (below_alloc (Below.refl _ _) _) _⟩ ?_
  rintro W ⟨zB, rB, b1⟩
  have k0 := zB.cell (j := 0) rfl
  have k1 := zB.cell (j := 1) rfl
  have k2 := zB.cell (j := 2) rfl
  have k3 := zB.cell (j := 3) rfl
  have k4 := zB.cell (j := 4) rfl
  have k5 := zB.cell (j := 5) rfl
  have k6 := zB.cell (j := 6) rfl
  have k7 := zB.cell (j := 7) rfl
  have k8 := zB.cell (j := 8) rfl
  have k9 := zB.cell (j := 9) rfl
  have lr := rB.lt
  have hp : w.heap.size + 1 ≠ w.heap.size := by omega
  go_region_held3 (fun V => V.cell? ⟨w.heap.size, 0, none⟩ = some (.int .i64 n.Id) ∧ V.cell? ⟨w.heap.size, 1, none⟩ = some (.int .i64 n.Size) ∧ V.cell? ⟨w.heap.size, 2, none⟩ = some (.int .i64 n.View) ∧ V.cell? ⟨w.heap.size, 3, none⟩ = some (.bool n.Normal) ∧ V.cell? ⟨w.heap.size, 4, none⟩ = some (.int .i64 n.Last) ∧ V.cell? ⟨w.heap.size, 5, none⟩ = some (.slice A5 n.Log.length c5) ∧ V.cell? ⟨w.heap.size, 6, none⟩ = some (.int .i64 n.Commit) ∧ V.cell? ⟨w.heap.size, 7, none⟩ = some (.slice A7 n.Oks.length c7) ∧ V.cell? ⟨w.heap.size, 8, none⟩ = some (.slice A8 n.Asks.length c8) ∧ V.cell? ⟨w.heap.size, 9, none⟩ = some (.slice A9 n.Doers.length c9)) (first | (with_reducible exact ⟨k0, k1, k2, k3, k4, k5, k6, k7, k8, k9⟩) | (simp only [cell_farN hp, g0, g1, g2, g3, g4, g5, g6, g7, g8, g9, and_self]; done) | (refine ⟨cell_below (show Below W.heap.size W _ from ?_) k0, cell_below (show Below W.heap.size W _ from ?_) k1, cell_below (show Below W.heap.size W _ from ?_) k2, cell_below (show Below W.heap.size W _ from ?_) k3, cell_below (show Below W.heap.size W _ from ?_) k4, cell_below (show Below W.heap.size W _ from ?_) k5, cell_below (show Below W.heap.size W _ from ?_) k6, cell_below (show Below W.heap.size W _ from ?_) k7, cell_below (show Below W.heap.size W _ from ?_) k8, cell_below (show Below W.heap.size W _ from ?_) k9⟩ <;> ((repeat (first | (with_reducible assumption) | (with_reducible exact Below.refl _ _) | (with_reducible apply below_alloc) | (with_reducible apply below_drewN) | (with_reducible apply Below.drew) | (with_reducible refine below_set ?_ (by dsimp only; omega) _) | (with_reducible refine below_trans ?_ (by assumption)))); done)) | go_keep) (first | (go_at_call 47; refine (HT.out _ ?_).mono ?_; (focus ((repeat (first | (with_reducible assumption) | (with_reducible exact Below.refl _ _) | (with_reducible apply below_alloc) | (with_reducible apply below_drewN) | (with_reducible apply Below.drew) | (with_reducible refine below_set ?_ (by dsimp only; omega) _) | (with_reducible refine below_trans ?_ (by assumption)))); done)); rintro e wc ⟨rfl, rfl⟩) | (go_at_call 46; refine (HC.out _ ?_).mono ?_; (focus ((repeat (first | (with_reducible assumption) | (with_reducible exact Below.refl _ _) | (with_reducible apply below_alloc) | (with_reducible apply below_drewN) | (with_reducible apply Below.drew) | (with_reducible refine below_set ?_ (by dsimp only; omega) _) | (with_reducible refine below_trans ?_ (by assumption)))); done)); rintro e wc ⟨rfl, hbc⟩; have yR := rB.below (show Below W.heap.size W wc by repeat (first | (with_reducible assumption) | (with_reducible exact Below.refl _ _) | (with_reducible apply below_alloc) | (with_reducible apply below_drewN) | (with_reducible apply Below.drew) | (with_reducible refine below_set ?_ (by dsimp only; omega) _) | (with_reducible refine below_trans ?_ (by assumption)))); have r0 := yR.cell (j := 0) rfl; have y0 := yR.frozen 0; have r1 := yR.cell (j := 1) rfl; have y1 := yR.frozen 1; have g0 := cell_below (show Below W.heap.size W wc by repeat (first | (with_reducible assumption) | (with_reducible exact Below.refl _ _) | (with_reducible apply below_alloc) | (with_reducible apply below_drewN) | (with_reducible apply Below.drew) | (with_reducible refine below_set ?_ (by dsimp only; omega) _) | (with_reducible refine below_trans ?_ (by assumption)))) k0; have g1 := cell_below (show Below W.heap.size W wc by repeat (first | (with_reducible assumption) | (with_reducible exact Below.refl _ _) | (with_reducible apply below_alloc) | (with_reducible apply below_drewN) | (with_reducible apply Below.drew) | (with_reducible refine below_set ?_ (by dsimp only; omega) _) | (with_reducible refine below_trans ?_ (by assumption)))) k1; have g2 := cell_below (show Below W.heap.size W wc by repeat (first | (with_reducible assumption) | (with_reducible exact Below.refl _ _) | (with_reducible apply below_alloc) | (with_reducible apply below_drewN) | (with_reducible apply Below.drew) | (with_reducible refine below_set ?_ (by dsimp only; omega) _) | (with_reducible refine below_trans ?_ (by assumption)))) k2; have g3 := cell_below (show Below W.heap.size W wc by repeat (first | (with_reducible assumption) | (with_reducible exact Below.refl _ _) | (with_reducible apply below_alloc) | (with_reducible apply below_drewN) | (with_reducible apply Below.drew) | (with_reducible refine below_set ?_ (by dsimp only; omega) _) | (with_reducible refine below_trans ?_ (by assumption)))) k3; have g4 := cell_below (show Below W.heap.size W wc by repeat (first | (with_reducible assumption) | (with_reducible exact Below.refl _ _) | (with_reducible apply below_alloc) | (with_reducible apply below_drewN) | (with_reducible apply Below.drew) | (with_reducible refine below_set ?_ (by dsimp only; omega) _) | (with_reducible refine below_trans ?_ (by assumption)))) k4; have g5 := cell_below (show Below W.heap.size W wc by repeat (first | (with_reducible assumption) | (with_reducible exact Below.refl _ _) | (with_reducible apply below_alloc) | (with_reducible apply below_drewN) | (with_reducible apply Below.drew) | (with_reducible refine below_set ?_ (by dsimp only; omega) _) | (with_reducible refine below_trans ?_ (by assumption)))) k5; have g6 := cell_below (show Below W.heap.size W wc by repeat (first | (with_reducible assumption) | (with_reducible exact Below.refl _ _) | (with_reducible apply below_alloc) | (with_reducible apply below_drewN) | (with_reducible apply Below.drew) | (with_reducible refine below_set ?_ (by dsimp only; omega) _) | (with_reducible refine below_trans ?_ (by assumption)))) k6; have g7 := cell_below (show Below W.heap.size W wc by repeat (first | (with_reducible assumption) | (with_reducible exact Below.refl _ _) | (with_reducible apply below_alloc) | (with_reducible apply below_drewN) | (with_reducible apply Below.drew) | (with_reducible refine below_set ?_ (by dsimp only; omega) _) | (with_reducible refine below_trans ?_ (by assumption)))) k7; have g8 := cell_below (show Below W.heap.size W wc by repeat (first | (with_reducible assumption) | (with_reducible exact Below.refl _ _) | (with_reducible apply below_alloc) | (with_reducible apply below_drewN) | (with_reducible apply Below.drew) | (with_reducible refine below_set ?_ (by dsimp only; omega) _) | (with_reducible refine below_trans ?_ (by assumption)))) k8; have g9 := cell_below (show Below W.heap.size W wc by repeat (first | (with_reducible assumption) | (with_reducible exact Below.refl _ _) | (with_reducible apply below_alloc) | (with_reducible apply below_drewN) | (with_reducible apply Below.drew) | (with_reducible refine below_set ?_ (by dsimp only; omega) _) | (with_reducible refine below_trans ?_ (by assumption)))) k9))
  all_goals (go_wp2_with fail)
  all_goals (exact bodyPost_ret (v := .agg #[.int .i64 v1, .int .i64 v2]) (by simp [results, Tryz.results14, go_sem, r0, r1]) rfl ⟨rfl, by repeat (first | (with_reducible assumption) | (with_reducible exact Below.refl _ _) | (with_reducible apply below_alloc) | (with_reducible apply below_drewN) | (with_reducible apply Below.drew) | (with_reducible refine below_set ?_ (by dsimp only; omega) _) | (with_reducible refine below_trans ?_ (by assumption)))⟩)
set_option maxRecDepth 100000 in
set_option maxHeartbeats 4000000 in
theorem sCountAsks_c (n : SReplica) (A5 : Option Addr) (c5 : Nat) (A7 : Option Addr) (c7 : Nat) (A8 : Option Addr) (c8 : Nat) (A9 : Option Addr) (c9 : Nat) (w : World) (h5 : RdS kEntry w A5 c5 n.Log) (h7 : RdS kInt w A7 c7 n.Oks) (h8 : RdS kBool w A8 c8 n.Asks) (h9 : RdS kDoer w A9 c9 n.Doers) (hl : n.Asks.length ≤ 1000) :
    Calls Tryz.prog 15 #[.agg #[.int .i64 n.Id, .int .i64 n.Size, .int .i64 n.View, .bool n.Normal, .int .i64 n.Last, .slice A5 n.Log.length c5, .int .i64 n.Commit, .slice A7 n.Oks.length c7, .slice A8 n.Asks.length c8, .slice A9 n.Doers.length c9]] w fun r w' => r = .returned (.agg #[.int .i64 (cntX n).1, .int .i64 (cntX n).2]) ∧ Below w.heap.size w w' := by
  go_enter Tryz.func15, Tryz.ntmps15
  go_upto_region 1 with fail
  refine at_world (fun W => Blk W w.heap.size 29 [.int .i64 n.Id, .int .i64 n.Size, .int .i64 n.View, .bool n.Normal, .int .i64 n.Last, .slice A5 n.Log.length c5, .int .i64 n.Commit, .slice A7 n.Oks.length c7, .slice A8 n.Asks.length c8, .slice A9 n.Doers.length c9] ∧ Blk W (w.heap.size + 1) 38 [.int .i64 0, .int .i64 0] ∧ Below w.heap.size w W) ⟨(blk_alloc w [.int .i64 n.Id, .int .i64 n.Size, .int .i64 n.View, .bool n.Normal, .int .i64 n.Last, .slice A5 n.Log.length c5, .int .i64 n.Commit, .slice A7 n.Oks.length c7, .slice A8 n.Asks.length c8, .slice A9 n.Doers.length c9] _).below (below_alloc (Below.refl _ _) _), by have := blk_alloc (w.alloc (.cells #[.int .i64 n.Id, .int .i64 n.Size, .int .i64 n.View, .bool n.Normal, .int .i64 n.Last, .slice A5 n.Log.length c5, .int .i64 n.Commit, .slice A7 n.Oks.length c7, .slice A8 n.Asks.length c8, .slice A9 n.Doers.length c9] 29)) [.int .i64 0, .int .i64 0] 38; rwa [Deep.nblk_alloc] at this, below_alloc (below_alloc (Below.refl _ _) _) _⟩ ?_
  rintro W ⟨zB, rB, b1⟩
  go_wp2_with fail
  refine (l9Fault_c n ⟨w.heap.size, 0, none⟩ W (blk_at _ _ _ _ _ _ _ _ zB (h5.below b1) (h7.below b1) (h8.below b1) (h9.below b1))).mono ?_
  rintro e w1 ⟨rfl, hb⟩
  replace rB := rB.below hb
  replace zB := zB.below hb
  have r0 := rB.cell (j := 0) rfl
  have y0 := rB.frozen 0
  have r1 := rB.cell (j := 1) rfl
  have y1 := rB.frozen 1
  have k8 := zB.cell (j := 8) rfl
  have lr := rB.lt
  have bw := below_trans b1 hb
  have r8 := h8.below bw
  have hX : cntX n = if (repF n != 0) then (repF n, 0) else (0, (truesN n.Asks : Int)) := rfl
  clear zB rB hb b1 h5 h7 h8 h9
  generalize repF n = cd at hX ⊢
  cases q : (cd != 0) with
  | true =>
    rw [q, if_pos rfl] at hX
    replace hX := Lib.hid hX
    go_wp2_with fail
    exact bodyPost_ret (v := .agg #[.int .i64 cd, .int .i64 0]) (by simp [results, Tryz.results15, go_sem, r0, r1]) rfl ⟨by rw [hX.out], by repeat (first | (with_reducible assumption) | (with_reducible exact Below.refl _ _) | (with_reducible apply below_alloc) | (with_reducible apply below_drewN) | (with_reducible apply Below.drew) | (with_reducible refine below_set ?_ (by dsimp only; omega) _) | (with_reducible refine below_trans ?_ (by assumption)))⟩
  | false =>
    rw [q, if_neg (by simp)] at hX
    replace hX := Lib.hid hX
    generalize n.Asks = xs at k8 r8 hl hX
    go_wp2_with fail
    go_loop [4, 5] (fun cv jv => ∃ j : Nat, j ≤ xs.length ∧ jv = .int .i64 j ∧ cv = .int .i64 (truesN (xs.take j) : Nat)) (fun _ jv => xs.length - (intOf jv).toNat)
    case atStart => exact ⟨0, Nat.zero_le _, rfl, rfl⟩
    case round =>
      obtain ⟨j, hj, rfl, rfl⟩ := hrel
      by_cases hlt : j < xs.length
      · have hlt' : (j : Int) < (xs.length : Int) := by omega
        obtain ⟨a, ea, hx⟩ := r8.at_ hlt
        subst ea
        simp only [show kBool.sz = 1 from rfl, Nat.mul_one] at hx
        obtain ⟨cs, hla, hcs⟩ := hx
        obtain rfl := hcs
        have q0 := hla.c0
        have hsu := Lib.hid (truesN_succ xs hlt)
        have hle : truesN (xs.take j) ≤ 1000 := Nat.le_trans (truesN_le _) (by rw [List.length_take]; omega)
        generalize truesN (xs.take j) = t at hsu hle ⊢
        generalize xs[j] = y at q0 hsu
        clear hla
        cases y with
        | true =>
          go_wp2_with fail
          go_round
          case rel => exact ⟨j + 1, hlt, by go_num, by rw [hsu.out]; go_num⟩
          case measure => simp [intOf]; omega
        | false =>
          go_wp2_with fail
          go_round
          case rel => exact ⟨j + 1, hlt, by go_num, by rw [hsu.out]; rfl⟩
          case measure => simp [intOf]; omega
      · have hj' : j = xs.length := by omega
        subst hj'
        rw [List.take_length]
        go_wp2_with fail
        exact bodyPost_ret (v := .agg #[.int .i64 0, .int .i64 (truesN xs : Nat)]) (by simp [results, Tryz.results15, go_sem, r0, r1]) rfl ⟨by rw [hX.out], by repeat (first | (with_reducible assumption) | (with_reducible exact Below.refl _ _) | (with_reducible apply below_alloc) | (with_reducible apply below_drewN) | (with_reducible apply Below.drew) | (with_reducible refine below_set ?_ (by dsimp only; omega) _) | (with_reducible refine below_trans ?_ (by assumption)))⟩
end Go.Proofs.YtdjfehjddfbbjaaGreat
