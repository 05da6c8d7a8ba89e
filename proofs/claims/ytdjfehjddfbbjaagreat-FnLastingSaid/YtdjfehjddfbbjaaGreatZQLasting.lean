/- The law FnLasting walked (written by gQLasting.py, own work). -/
import Derived.Test.YtdjfehjddfbbjaaGreatZW9
import Derived.Test.YtdjfehjddfbbjaaGreatZW10
import Derived.Test.YtdjfehjddfbbjaaGreatZW11
import Derived.Test.YtdjfehjddfbbjaaGreatZPLast
import Derived.Deep.RegionHeld3
set_option linter.unusedVariables false
set_option linter.unusedSimpArgs false
namespace Go.Proofs.YtdjfehjddfbbjaaGreat
open Go Go.RowKit Mk
theorem opensCode : Opens Tryz.prog (slice 5 kU8) 22 := opens_slice (e := 5) _ (by kernel_rfl) (by kernel_rfl) (opens_u8 (by kernel_rfl))
theorem field_ir (v0 v1 : Value) (W : World) : (Instr.field 38 (.agg #[v0, v1]) 1).run Tryz.prog W = .ok v1 W := by kernel_rfl
theorem field_rs (v0 v1 v2 v3 v4 v5 v6 v7 v8 v9 v10 v11 : Value) (W : World) : (Instr.field 33 (.agg #[v0, v1, v2, v3, v4, v5, v6, v7, v8, v9, v10, v11]) 2).run Tryz.prog W = .ok v11 W := by kernel_rfl
theorem com_self (xs : List SEntry) : com xs xs = xs.length := by
  induction xs with
  | nil => rfl
  | cons x xs ih =>
    unfold com
    rw [show eqE x x = true by simp [eqE, eqO], if_pos rfl, ih]
    rfl
theorem lwBigL_c (n c : Nat) (A : Option Addr) (w : World) (hn : n ≤ 9223372036854775807) : Calls Tryz.prog 6 #[.slice A n c] w fun r w' => r = .returned (.bool (decide (1048576 < (n : Int)))) ∧ w' = w := by
  go_enter Tryz.func6, Tryz.ntmps6
  go_wp2_with fail
  go_ret
  exact ⟨rfl, rfl⟩
set_option maxRecDepth 100000 in
set_option maxHeartbeats 8000000 in
theorem law_Lasting (code : List (Fin 256)) (A : Option Addr) (c : Nat) (w : World) (hr : RdS kU8 w A c code) :
    Calls Tryz.prog 3 #[.slice A code.length c] w fun e w' => e = .returned (.bool true) ∧ Below w.heap.size w w' := by
  have hln := hr.le63
  by_cases hbig : 1048576 < code.length
  · have hd : decide ((1048576 : Int) < (code.length : Int)) = true := decide_eq_true (by omega)
    go_enter Tryz.func3, Tryz.ntmps3
    go_wp2_with fail
    refine (lwBigL_c code.length c A w hln).mono ?_
    rintro e w1 ⟨rfl, rfl⟩
    go_wp2_with fail
    go_ret
    exact ⟨rfl, Below.refl _ _⟩
  have hd : decide ((1048576 : Int) < (code.length : Int)) = false := decide_eq_false (by omega)
  go_enter Tryz.func3, Tryz.ntmps3
  go_wp2_with fail
  refine (lwBigL_c code.length c A w hln).mono ?_
  rintro e w1 ⟨rfl, rfl⟩
  go_wp2_with fail
  refine (drawCrashReplica_c code A c w1 hr).mono ?_
  rintro e w2 ⟨n, A5, c5, A7, c7, A8, c8, A9, c9, _, _, _, _, rfl, ⟨o5, o7, o8, o9, -⟩, hL, bw2⟩
  have h5 := (ownS_rds o5).1
  have h7 := (ownS_rds o7).1
  have h8 := (ownS_rds o8).1
  have h9 := (ownS_rds o9).1
  clear o5 o7 o8 o9 hr hd hbig hln
  have HC := Lib.hid (fun W => iCrashReplica_c n A5 c5 A7 c7 A8 c8 A9 c9 W)
  have HT := Lib.hid (fun W => iTimeoutReplica_c n A5 c5 A7 c7 A8 c8 A9 c9 W)
  obtain ⟨X, hX⟩ : ∃ X, crashX n = X := ⟨_, rfl⟩
  obtain ⟨T, hT⟩ : ∃ T, timeoutX n = T := ⟨_, rfl⟩
  rw [hX] at HC
  rw [hT] at HT
  replace hX := Lib.hid hX
  replace hT := Lib.hid hT
  go_upto_region 4 with fail
  refine at_world (fun W => Blk W w2.heap.size 29 [.int .i64 n.Id, .int .i64 n.Size, .int .i64 n.View, .bool n.Normal, .int .i64 n.Last, .slice A5 n.Log.length c5, .int .i64 n.Commit, .slice A7 n.Oks.length c7, .slice A8 n.Asks.length c8, .slice A9 n.Doers.length c9] ∧ Below w2.heap.size w2 W ∧ w2.heap.size < W.heap.size) ⟨blk_alloc w2 [.int .i64 n.Id, .int .i64 n.Size, .int .i64 n.View, .bool n.Normal, .int .i64 n.Last, .slice A5 n.Log.length c5, .int .i64 n.Commit, .slice A7 n.Oks.length c7, .slice A8 n.Asks.length c8, .slice A9 n.Doers.length c9] _, below_alloc (Below.refl _ _) _, by rw [Deep.nblk_alloc]; omega⟩ ?_
  rintro W3 ⟨zN, b3, s3⟩
  obtain ⟨bn, hbn⟩ : ∃ bn, bn = w2.heap.size := ⟨_, rfl⟩
  rw [← hbn] at zN ⊢
  replace hbn := Lib.hid hbn
  have bw3 := below_trans bw2 b3
  replace h5 := h5.below b3
  replace h7 := h7.below b3
  replace h8 := h8.below b3
  replace h9 := h9.below b3
  have n_0 := zN.cell (j := 0) rfl
  have n_1 := zN.cell (j := 1) rfl
  have n_2 := zN.cell (j := 2) rfl
  have n_3 := zN.cell (j := 3) rfl
  have n_4 := zN.cell (j := 4) rfl
  have n_5 := zN.cell (j := 5) rfl
  have n_6 := zN.cell (j := 6) rfl
  have n_7 := zN.cell (j := 7) rfl
  have n_8 := zN.cell (j := 8) rfl
  have n_9 := zN.cell (j := 9) rfl
  clear b3 bw2
  go_wp2_with fail
  refine (HC.out W3 h5 h7 h8 h9).mono ?_
  rintro e w4 ⟨C6, C6', C8, C8', C9, C9', C10, C10', C11, C11', _, _, _, _, _, rfl, ⟨p6, p8, p9, p10, p11, -⟩, hb4⟩
  have q6 := (ownS_rds p6).1
  have q8 := (ownS_rds p8).1
  have q9 := (ownS_rds p9).1
  have q10 := (ownS_rds p10).1
  clear p6 p8 p9 p10 p11 HC n_0 n_1 n_2 n_3 n_4 n_5 n_6 n_7 n_8 n_9
  go_upto_region 5 with fail
  refine at_world (fun W => Blk W w4.heap.size 33 [.int .i64 X.Code, .int .i64 X.Replica.Id, .int .i64 X.Replica.Size, .int .i64 X.Replica.View, .bool X.Replica.Normal, .int .i64 X.Replica.Last, .slice C6 X.Replica.Log.length C6', .int .i64 X.Replica.Commit, .slice C8 X.Replica.Oks.length C8', .slice C9 X.Replica.Asks.length C9', .slice C10 X.Replica.Doers.length C10', .slice C11 X.Send.length C11'] ∧ Below w4.heap.size w4 W ∧ w4.heap.size < W.heap.size) ⟨blk_alloc w4 [.int .i64 X.Code, .int .i64 X.Replica.Id, .int .i64 X.Replica.Size, .int .i64 X.Replica.View, .bool X.Replica.Normal, .int .i64 X.Replica.Last, .slice C6 X.Replica.Log.length C6', .int .i64 X.Replica.Commit, .slice C8 X.Replica.Oks.length C8', .slice C9 X.Replica.Asks.length C9', .slice C10 X.Replica.Doers.length C10', .slice C11 X.Send.length C11'] _, below_alloc (Below.refl _ _) _, by rw [Deep.nblk_alloc]; omega⟩ ?_
  rintro W5 ⟨zC, b5, s5⟩
  obtain ⟨bc, hbc⟩ : ∃ bc, bc = w4.heap.size := ⟨_, rfl⟩
  rw [← hbc] at zC ⊢
  replace hbc := Lib.hid hbc
  have b35 := below_trans hb4 b5
  have bw5 := below_trans bw3 b35
  replace zN := zN.below b35
  replace h5 := h5.below b35
  replace h7 := h7.below b35
  replace h8 := h8.below b35
  replace h9 := h9.below b35
  replace q6 := q6.below b5
  replace q8 := q8.below b5
  replace q9 := q9.below b5
  replace q10 := q10.below b5
  have n_0 := zN.cell (j := 0) rfl
  have n_1 := zN.cell (j := 1) rfl
  have n_2 := zN.cell (j := 2) rfl
  have n_3 := zN.cell (j := 3) rfl
  have n_4 := zN.cell (j := 4) rfl
  have n_5 := zN.cell (j := 5) rfl
  have n_6 := zN.cell (j := 6) rfl
  have n_7 := zN.cell (j := 7) rfl
  have n_8 := zN.cell (j := 8) rfl
  have n_9 := zN.cell (j := 9) rfl
  have hne1 : bn < bc := by have := hb4.size; have := hbn.out; have := hbc.out; omega
  clear hb4 b5 b35 bw3 hbn
  go_wp2_with fail
  refine (HT.out W5 h5 h7 h8 h9).mono ?_
  rintro e w6 ⟨T6, T6', T8, T8', T9, T9', T10, T10', T11, T11', _, _, _, _, _, rfl, ⟨p6, p8, p9, p10, p11, -⟩, hb6⟩
  have t6 := (ownS_rds p6).1
  have t8 := (ownS_rds p8).1
  have t9 := (ownS_rds p9).1
  have t10 := (ownS_rds p10).1
  clear p6 p8 p9 p10 p11 HT n_0 n_1 n_2 n_3 n_4 n_5 n_6 n_7 n_8 n_9
  go_upto_region 6 with fail
  refine at_world (fun W => Blk W w6.heap.size 33 [.int .i64 T.Code, .int .i64 T.Replica.Id, .int .i64 T.Replica.Size, .int .i64 T.Replica.View, .bool T.Replica.Normal, .int .i64 T.Replica.Last, .slice T6 T.Replica.Log.length T6', .int .i64 T.Replica.Commit, .slice T8 T.Replica.Oks.length T8', .slice T9 T.Replica.Asks.length T9', .slice T10 T.Replica.Doers.length T10', .slice T11 T.Send.length T11'] ∧ Below w6.heap.size w6 W ∧ w6.heap.size < W.heap.size) ⟨blk_alloc w6 [.int .i64 T.Code, .int .i64 T.Replica.Id, .int .i64 T.Replica.Size, .int .i64 T.Replica.View, .bool T.Replica.Normal, .int .i64 T.Replica.Last, .slice T6 T.Replica.Log.length T6', .int .i64 T.Replica.Commit, .slice T8 T.Replica.Oks.length T8', .slice T9 T.Replica.Asks.length T9', .slice T10 T.Replica.Doers.length T10', .slice T11 T.Send.length T11'] _, below_alloc (Below.refl _ _) _, by rw [Deep.nblk_alloc]; omega⟩ ?_
  rintro W7 ⟨zT, b7, s7⟩
  obtain ⟨bt, hbt⟩ : ∃ bt, bt = w6.heap.size := ⟨_, rfl⟩
  rw [← hbt] at zT ⊢
  replace hbt := Lib.hid hbt
  have b57 := below_trans hb6 b7
  have bw7 := below_trans bw5 b57
  replace zN := zN.below b57
  replace zC := zC.below b57
  replace h5 := h5.below b57
  replace h7 := h7.below b57
  replace h8 := h8.below b57
  replace h9 := h9.below b57
  replace q6 := q6.below b57
  replace q8 := q8.below b57
  replace q9 := q9.below b57
  replace q10 := q10.below b57
  replace t6 := t6.below b7
  replace t8 := t8.below b7
  replace t9 := t9.below b7
  replace t10 := t10.below b7
  have n_0 := zN.cell (j := 0) rfl
  have n_1 := zN.cell (j := 1) rfl
  have n_2 := zN.cell (j := 2) rfl
  have n_3 := zN.cell (j := 3) rfl
  have n_4 := zN.cell (j := 4) rfl
  have n_5 := zN.cell (j := 5) rfl
  have n_6 := zN.cell (j := 6) rfl
  have n_7 := zN.cell (j := 7) rfl
  have n_8 := zN.cell (j := 8) rfl
  have n_9 := zN.cell (j := 9) rfl
  have x_0 := zC.cell (j := 0) rfl
  have x_1 := zC.cell (j := 1) rfl
  have x_2 := zC.cell (j := 2) rfl
  have x_3 := zC.cell (j := 3) rfl
  have x_4 := zC.cell (j := 4) rfl
  have x_5 := zC.cell (j := 5) rfl
  have x_6 := zC.cell (j := 6) rfl
  have x_7 := zC.cell (j := 7) rfl
  have x_8 := zC.cell (j := 8) rfl
  have x_9 := zC.cell (j := 9) rfl
  have x_10 := zC.cell (j := 10) rfl
  have x_11 := zC.cell (j := 11) rfl
  have u_0 := zT.cell (j := 0) rfl
  have u_1 := zT.cell (j := 1) rfl
  have u_2 := zT.cell (j := 2) rfl
  have u_3 := zT.cell (j := 3) rfl
  have u_4 := zT.cell (j := 4) rfl
  have u_5 := zT.cell (j := 5) rfl
  have u_6 := zT.cell (j := 6) rfl
  have u_7 := zT.cell (j := 7) rfl
  have u_8 := zT.cell (j := 8) rfl
  have u_9 := zT.cell (j := 9) rfl
  have u_10 := zT.cell (j := 10) rfl
  have u_11 := zT.cell (j := 11) rfl
  have hne2 : bc < bt := by have := hb6.size; have := hbc.out; have := hbt.out; omega
  clear hb6 b7 b57 bw5 hbc hbt s3 s5 s7
  cases hq : (repF n != 0) with
  | true =>
    have hX0 : X = ⟨repF n, zReplica, []⟩ := by rw [← hX.out]; unfold crashX; rw [hq, if_pos rfl]
    have hT0 : T = ⟨repF n, zReplica, []⟩ := by rw [← hT.out]; unfold timeoutX; rw [hq, if_pos rfl]
    have xc : X.Code = repF n := by rw [hX0]
    have tc : T.Code = repF n := by rw [hT0]
    have HF := Lib.hid (fun (W : World) (hW : Below W7.heap.size W7 W) => sReplicaFault_c n A5 c5 A7 c7 A8 c8 A9 c9 W (h5.below hW) (h7.below hW) (h8.below hW) (h9.below hW))
    rw [xc] at x_0
    rw [tc] at u_0
    generalize repF n = cd at x_0 u_0 HF hq
    clear xc tc hX0 hT0 hX hT q6 q8 q9 q10 t6 t8 t9 t10 h5 h7 h8 h9
    go_upto_region 7 with fail
    go_region_held3 (fun V => V.cell? ⟨bn, 0, none⟩ = some (.int .i64 n.Id) ∧ V.cell? ⟨bn, 1, none⟩ = some (.int .i64 n.Size) ∧ V.cell? ⟨bn, 2, none⟩ = some (.int .i64 n.View) ∧ V.cell? ⟨bn, 3, none⟩ = some (.bool n.Normal) ∧ V.cell? ⟨bn, 4, none⟩ = some (.int .i64 n.Last) ∧ V.cell? ⟨bn, 5, none⟩ = some (.slice A5 n.Log.length c5) ∧ V.cell? ⟨bn, 6, none⟩ = some (.int .i64 n.Commit) ∧ V.cell? ⟨bn, 7, none⟩ = some (.slice A7 n.Oks.length c7) ∧ V.cell? ⟨bn, 8, none⟩ = some (.slice A8 n.Asks.length c8) ∧ V.cell? ⟨bn, 9, none⟩ = some (.slice A9 n.Doers.length c9) ∧ V.cell? ⟨bc, 0, none⟩ = some (.int .i64 cd) ∧ V.cell? ⟨bt, 0, none⟩ = some (.int .i64 cd)) (first | (with_reducible exact ⟨n_0, n_1, n_2, n_3, n_4, n_5, n_6, n_7, n_8, n_9, x_0, u_0⟩) | (refine ⟨cell_below (show Below W7.heap.size W7 _ from ?_) n_0, cell_below (show Below W7.heap.size W7 _ from ?_) n_1, cell_below (show Below W7.heap.size W7 _ from ?_) n_2, cell_below (show Below W7.heap.size W7 _ from ?_) n_3, cell_below (show Below W7.heap.size W7 _ from ?_) n_4, cell_below (show Below W7.heap.size W7 _ from ?_) n_5, cell_below (show Below W7.heap.size W7 _ from ?_) n_6, cell_below (show Below W7.heap.size W7 _ from ?_) n_7, cell_below (show Below W7.heap.size W7 _ from ?_) n_8, cell_below (show Below W7.heap.size W7 _ from ?_) n_9, cell_below (show Below W7.heap.size W7 _ from ?_) x_0, cell_below (show Below W7.heap.size W7 _ from ?_) u_0⟩ <;> ((repeat (first | (with_reducible assumption) | (with_reducible exact Below.refl _ _) | (with_reducible apply below_alloc) | (with_reducible apply below_drewN) | (with_reducible apply Below.drew) | (with_reducible refine below_set ?_ (by dsimp only; omega) _) | (with_reducible refine below_trans ?_ (by assumption)))); done)) | go_keep) (first | (go_at_call 10; refine (HF.out _ ?_).mono ?_; (focus ((repeat (first | (with_reducible assumption) | (with_reducible exact Below.refl _ _) | (with_reducible apply below_alloc) | (with_reducible apply below_drewN) | (with_reducible apply Below.drew) | (with_reducible refine below_set ?_ (by dsimp only; omega) _) | (with_reducible refine below_trans ?_ (by assumption)))); done)); rintro e wc ⟨rfl, hbc2⟩))
    all_goals (go_wp2_with fail)
    all_goals (go_ret)
    all_goals (exact ⟨rfl, by repeat (first | (with_reducible assumption) | (with_reducible exact Below.refl _ _) | (with_reducible apply below_alloc) | (with_reducible apply below_drewN) | (with_reducible apply Below.drew) | (with_reducible refine below_set ?_ (by dsimp only; omega) _) | (with_reducible refine below_trans ?_ (by assumption)))⟩)
  | false =>
    have h0 : repF n = 0 := by simpa using hq
    have hX0 : X = ⟨0, crashR n n.Id.toNat n.Size.toNat, []⟩ := by rw [← hX.out]; unfold crashX; rw [hq, if_neg (by simp)]
    have xc : X.Code = 0 := by rw [hX0]
    have xr : repF X.Replica = 0 := by rw [hX0]; exact crash_ok h0
    have xS : X.Replica.Size = n.Size := by rw [hX0]; rfl
    have xV : X.Replica.View = n.View := by rw [hX0]; rfl
    have xN : X.Replica.Normal = n.Normal := by rw [hX0]; rfl
    have xL : X.Replica.Last = n.Last := by rw [hX0]; rfl
    have xG : X.Replica.Log = n.Log := by rw [hX0]; rfl
    have HFa := Lib.hid (fun (W : World) (hW : Below W7.heap.size W7 W) => replicaFault_c X.Replica C6 C6' C8 C8' C9 C9' C10 C10' W (q6.below hW) (q8.below hW) (q9.below hW) (q10.below hW))
    have HBg := Lib.hid (fun (W : World) (hW : Below W7.heap.size W7 W) => isBeginningW_c n.Log n.Log C6 C6' A5 c5 W (by rw [← xG]; exact q6.below hW) (h5.below hW))
    rw [xr, xS, xV, xN, xL, xG] at HFa
    rw [com_self] at HBg
    rw [show ((n.Log.length : Int) == (n.Log.length : Int)) = true by simp] at HBg
    rw [xc] at x_0
    rw [xS] at x_2
    rw [xV] at x_3
    rw [xN] at x_4
    rw [xL] at x_5
    rw [xG] at x_6
    have HBt := Lib.hid (fun W => iBeatReplica_c n A5 c5 A7 c7 A8 c8 A9 c9 W)
    have HBs := Lib.hid (fun W => sBeatReplica_c n A5 c5 A7 c7 A8 c8 A9 c9 W)
    obtain ⟨Bx, hBx⟩ : ∃ Bx, beatX n = Bx := ⟨_, rfl⟩
    have hBc : Bx.Code = 0 := by rw [← hBx, beatX_code n hq]
    rw [hBx] at HBt HBs
    replace hBc := Lib.hid hBc
    clear hBx hX0 hX xc xr xS xV xN xL q6 q8 q9 q10
    generalize hXi : X.Replica.Id = xi at *
    clear hXi
    go_upto_region 9 with fail
    refine at_world (fun W => Blk W W7.heap.size 29 [.int .i64 xi, .int .i64 n.Size, .int .i64 n.View, .bool n.Normal, .int .i64 n.Last, .slice C6 n.Log.length C6', .int .i64 X.Replica.Commit, .slice C8 X.Replica.Oks.length C8', .slice C9 X.Replica.Asks.length C9', .slice C10 X.Replica.Doers.length C10'] ∧ Below W7.heap.size W7 W) ⟨blk_alloc W7 [.int .i64 xi, .int .i64 n.Size, .int .i64 n.View, .bool n.Normal, .int .i64 n.Last, .slice C6 n.Log.length C6', .int .i64 X.Replica.Commit, .slice C8 X.Replica.Oks.length C8', .slice C9 X.Replica.Asks.length C9', .slice C10 X.Replica.Doers.length C10'] _, below_alloc (Below.refl _ _) _⟩ ?_
    rintro W8 ⟨zA, b8⟩
    have zN8 := zN.below b8
    clear n_0 n_1 n_2 n_3 n_4 n_5 n_6 n_7 n_8 n_9 x_0 x_1 x_2 x_3 x_4 x_5 x_6 x_7 x_8 x_9 x_10 x_11 u_0 u_1 u_2 u_3 u_4 u_5 u_6 u_7 u_8 u_9 u_10 u_11
    have n_0 := zN8.cell (j := 0) rfl
    have n_1 := zN8.cell (j := 1) rfl
    have n_2 := zN8.cell (j := 2) rfl
    have n_3 := zN8.cell (j := 3) rfl
    have n_4 := zN8.cell (j := 4) rfl
    have n_5 := zN8.cell (j := 5) rfl
    have n_6 := zN8.cell (j := 6) rfl
    have n_7 := zN8.cell (j := 7) rfl
    have n_8 := zN8.cell (j := 8) rfl
    have n_9 := zN8.cell (j := 9) rfl
    have a_0 := zA.cell (j := 0) rfl
    have a_1 := zA.cell (j := 1) rfl
    have a_2 := zA.cell (j := 2) rfl
    have a_3 := zA.cell (j := 3) rfl
    have a_4 := zA.cell (j := 4) rfl
    have a_5 := zA.cell (j := 5) rfl
    have a_6 := zA.cell (j := 6) rfl
    have a_7 := zA.cell (j := 7) rfl
    have a_8 := zA.cell (j := 8) rfl
    have a_9 := zA.cell (j := 9) rfl
    go_wp2_with fail
    refine (HFa.out W8 b8).mono ?_
    rintro e w9 ⟨rfl, hb9⟩
    have b79 := below_trans b8 hb9
    replace zA := zA.below hb9
    replace zN8 := zN8.below hb9
    clear n_0 n_1 n_2 n_3 n_4 n_5 n_6 n_7 n_8 n_9 a_0 a_1 a_2 a_3 a_4 a_5 a_6 a_7 a_8 a_9 b8 hb9 HFa
    have n_0 := zN8.cell (j := 0) rfl
    have n_1 := zN8.cell (j := 1) rfl
    have n_2 := zN8.cell (j := 2) rfl
    have n_3 := zN8.cell (j := 3) rfl
    have n_4 := zN8.cell (j := 4) rfl
    have n_5 := zN8.cell (j := 5) rfl
    have n_6 := zN8.cell (j := 6) rfl
    have n_7 := zN8.cell (j := 7) rfl
    have n_8 := zN8.cell (j := 8) rfl
    have n_9 := zN8.cell (j := 9) rfl
    have a_0 := zA.cell (j := 0) rfl
    have a_1 := zA.cell (j := 1) rfl
    have a_2 := zA.cell (j := 2) rfl
    have a_3 := zA.cell (j := 3) rfl
    have a_4 := zA.cell (j := 4) rfl
    have a_5 := zA.cell (j := 5) rfl
    have a_6 := zA.cell (j := 6) rfl
    have a_7 := zA.cell (j := 7) rfl
    have a_8 := zA.cell (j := 8) rfl
    have a_9 := zA.cell (j := 9) rfl
    go_wp2_with fail
    refine (HBg.out w9 b79).mono ?_
    rintro e w10 ⟨rfl, hb10⟩
    have b710 := below_trans b79 hb10
    replace zA := zA.below hb10
    replace zN8 := zN8.below hb10
    clear n_0 n_1 n_2 n_3 n_4 n_5 n_6 n_7 n_8 n_9 a_0 a_1 a_2 a_3 a_4 a_5 a_6 a_7 a_8 a_9 b79 hb10 HBg
    have n_0 := zN8.cell (j := 0) rfl
    have n_1 := zN8.cell (j := 1) rfl
    have n_2 := zN8.cell (j := 2) rfl
    have n_3 := zN8.cell (j := 3) rfl
    have n_4 := zN8.cell (j := 4) rfl
    have n_5 := zN8.cell (j := 5) rfl
    have n_6 := zN8.cell (j := 6) rfl
    have n_7 := zN8.cell (j := 7) rfl
    have n_8 := zN8.cell (j := 8) rfl
    have n_9 := zN8.cell (j := 9) rfl
    have a_0 := zA.cell (j := 0) rfl
    have a_1 := zA.cell (j := 1) rfl
    have a_2 := zA.cell (j := 2) rfl
    have a_3 := zA.cell (j := 3) rfl
    have a_4 := zA.cell (j := 4) rfl
    have a_5 := zA.cell (j := 5) rfl
    have a_6 := zA.cell (j := 6) rfl
    have a_7 := zA.cell (j := 7) rfl
    have a_8 := zA.cell (j := 8) rfl
    have a_9 := zA.cell (j := 9) rfl
    go_wp2_with fail
    refine (HBt.out w10 (h5.below b710) (h7.below b710) (h8.below b710) (h9.below b710)).mono ?_
    rintro e w11 ⟨B6, B6', B8, B8', B9, B9', B10, B10', B11, B11', _, _, _, _, _, rfl, -, hb11⟩
    clear n_0 n_1 n_2 n_3 n_4 n_5 n_6 n_7 n_8 n_9 a_0 a_1 a_2 a_3 a_4 a_5 a_6 a_7 a_8 a_9 HBt
    go_upto_region 12 with fail
    refine at_world (fun W => Blk W w11.heap.size 33 [.int .i64 Bx.Code, .int .i64 Bx.Replica.Id, .int .i64 Bx.Replica.Size, .int .i64 Bx.Replica.View, .bool Bx.Replica.Normal, .int .i64 Bx.Replica.Last, .slice B6 Bx.Replica.Log.length B6', .int .i64 Bx.Replica.Commit, .slice B8 Bx.Replica.Oks.length B8', .slice B9 Bx.Replica.Asks.length B9', .slice B10 Bx.Replica.Doers.length B10', .slice B11 Bx.Send.length B11'] ∧ Below w11.heap.size w11 W) ⟨blk_alloc w11 [.int .i64 Bx.Code, .int .i64 Bx.Replica.Id, .int .i64 Bx.Replica.Size, .int .i64 Bx.Replica.View, .bool Bx.Replica.Normal, .int .i64 Bx.Replica.Last, .slice B6 Bx.Replica.Log.length B6', .int .i64 Bx.Replica.Commit, .slice B8 Bx.Replica.Oks.length B8', .slice B9 Bx.Replica.Asks.length B9', .slice B10 Bx.Replica.Doers.length B10', .slice B11 Bx.Send.length B11'] _, below_alloc (Below.refl _ _) _⟩ ?_
    rintro W12 ⟨zB, b12⟩
    have b712 := below_trans b710 (below_trans hb11 b12)
    have bw12 := below_trans bw7 b712
    replace zN := zN.below b712
    replace zT := zT.below b712
    replace h5 := h5.below b712
    replace h7 := h7.below b712
    replace h8 := h8.below b712
    replace h9 := h9.below b712
    replace t6 := t6.below b712
    replace t8 := t8.below b712
    replace t9 := t9.below b712
    replace t10 := t10.below b712
    clear zA zN8 zC b710 hb11 b12 b712 bw7
    have n_0 := zN.cell (j := 0) rfl
    have n_1 := zN.cell (j := 1) rfl
    have n_2 := zN.cell (j := 2) rfl
    have n_3 := zN.cell (j := 3) rfl
    have n_4 := zN.cell (j := 4) rfl
    have n_5 := zN.cell (j := 5) rfl
    have n_6 := zN.cell (j := 6) rfl
    have n_7 := zN.cell (j := 7) rfl
    have n_8 := zN.cell (j := 8) rfl
    have n_9 := zN.cell (j := 9) rfl
    have u_0 := zT.cell (j := 0) rfl
    have u_1 := zT.cell (j := 1) rfl
    have u_2 := zT.cell (j := 2) rfl
    have u_3 := zT.cell (j := 3) rfl
    have u_4 := zT.cell (j := 4) rfl
    have u_5 := zT.cell (j := 5) rfl
    have u_6 := zT.cell (j := 6) rfl
    have u_7 := zT.cell (j := 7) rfl
    have u_8 := zT.cell (j := 8) rfl
    have u_9 := zT.cell (j := 9) rfl
    have u_10 := zT.cell (j := 10) rfl
    have u_11 := zT.cell (j := 11) rfl
    have b_0 := zB.cell (j := 0) rfl
    have b_1 := zB.cell (j := 1) rfl
    have b_2 := zB.cell (j := 2) rfl
    have b_3 := zB.cell (j := 3) rfl
    have b_4 := zB.cell (j := 4) rfl
    have b_5 := zB.cell (j := 5) rfl
    have b_6 := zB.cell (j := 6) rfl
    have b_7 := zB.cell (j := 7) rfl
    have b_8 := zB.cell (j := 8) rfl
    have b_9 := zB.cell (j := 9) rfl
    have b_10 := zB.cell (j := 10) rfl
    have b_11 := zB.cell (j := 11) rfl
    rw [hBc.out] at b_0
    cases hv : (n.View == 200) with
    | true =>
      have hT0 : T = ⟨2, zReplica, []⟩ := by rw [← hT.out]; unfold timeoutX; rw [hq, hv]; rfl
      have tc : T.Code = 2 := by rw [hT0]
      rw [tc] at u_0
      clear hT0 tc hT
      go_wp2_with fail
      go_ret
      exact ⟨rfl, by repeat (first | (with_reducible assumption) | (with_reducible exact Below.refl _ _) | (with_reducible apply below_alloc) | (with_reducible apply below_drewN) | (with_reducible apply Below.drew) | (with_reducible refine below_set ?_ (by dsimp only; omega) _) | (with_reducible refine below_trans ?_ (by assumption)))⟩
    | false =>
      have hv2 : n.View ≠ 200 := by simpa using hv
      have hT0 : T = ⟨0, timeoutR n n.Id.toNat n.Size.toNat n.View.toNat, timeoutM n.Id.toNat n.Size.toNat n.View.toNat⟩ := by rw [← hT.out]; unfold timeoutX; rw [hq, hv]; rfl
      have hnm := repF_nums hq
      obtain ⟨k1, k2, k3, k4, k5⟩ := timeout_ok h0 hv2
      have tc : T.Code = 0 := by rw [hT0]
      have tr : repF T.Replica = 0 := by rw [hT0]; exact k1
      have tV : T.Replica.View = n.View + 1 := by rw [hT0]; exact k2
      have tG : T.Replica.Log = n.Log := by rw [hT0]; exact k3
      have tN : T.Replica.Normal = (n.Size == 1) := by rw [hT0]; exact k4
      have tA : T.Replica.Asks = if n.Size = 1 then [] else aloneL n.Size.toNat n.Id.toNat := by rw [hT0]; exact k5
      have hal : T.Replica.Asks.length ≤ 1000 := by
        rw [tA]
        have := hnm.le
        split
        · simp
        · rw [aloneL_len']; omega
      have hkv : (n.Size == 1 || (cntX T.Replica).2 == 1) = true := by
        unfold cntX
        rw [tr, tA]
        by_cases h1 : n.Size = 1
        · simp [h1]
        · have := hnm.lt
          simp [h1, truesN_alone this]
      have hvb : 0 ≤ n.View ∧ n.View ≤ 200 := by have := hnm.view; have := hnm.vle; omega
      have HCi := Lib.hid (fun (W : World) (hW : Below W12.heap.size W12 W) => iCountAsks_c T.Replica T6 T6' T8 T8' T9 T9' T10 T10' W (t6.below hW) (t8.below hW) (t9.below hW) (t10.below hW) hal)
      have HCs := Lib.hid (fun (W : World) (hW : Below W12.heap.size W12 W) => sCountAsks_c T.Replica T6 T6' T8 T8' T9 T9' T10 T10' W (t6.below hW) (t8.below hW) (t9.below hW) (t10.below hW) hal)
      have HFt := Lib.hid (fun (W : World) (hW : Below W12.heap.size W12 W) => replicaFault_c T.Replica T6 T6' T8 T8' T9 T9' T10 T10' W (t6.below hW) (t8.below hW) (t9.below hW) (t10.below hW))
      replace HBs := Lib.hid (fun (W : World) (hW : Below W12.heap.size W12 W) => HBs.out W (h5.below hW) (h7.below hW) (h8.below hW) (h9.below hW))
      rw [tr] at HFt
      rw [tV, tG, tN] at HCi HCs HFt
      rw [tc] at u_0
      rw [tV] at u_3
      rw [tN] at u_4
      rw [tG] at u_6
      have tc2 := Lib.hid tc
      have tV2 := Lib.hid tV
      have tN2 := Lib.hid tN
      have tG2 := Lib.hid tG
      have hBc2 := hBc
      generalize (cntX T.Replica).1 = c1 at *
      generalize (cntX T.Replica).2 = kv at *
      clear hT0 hT tc tr tV tG tN tA hal k1 k2 k3 k4 k5 hnm h5 h7 h8 h9 t6 t8 t9 t10 hL hBc
      go_wp2_with fail
      refine (HCi.out W12 (Below.refl _ _)).mono ?_
      rintro e w13 ⟨rfl, hb13⟩
      go_upto_region 15 with fail
      refine at_world (fun W => Blk W w13.heap.size 38 [.int .i64 c1, .int .i64 kv] ∧ Below w13.heap.size w13 W) ⟨blk_alloc w13 [.int .i64 c1, .int .i64 kv] _, below_alloc (Below.refl _ _) _⟩ ?_
      rintro W15 ⟨zK, b15⟩
      have b1215 := below_trans hb13 b15
      have bw15 := below_trans bw12 b1215
      have zN15 := zN.below b1215
      have zT15 := zT.below b1215
      have zB15 := zB.below b1215
      clear n_0 n_1 n_2 n_3 n_4 n_5 n_6 n_7 n_8 n_9 u_0 u_1 u_2 u_3 u_4 u_5 u_6 u_7 u_8 u_9 u_10 u_11 b_0 b_1 b_2 b_3 b_4 b_5 b_6 b_7 b_8 b_9 b_10 b_11
      have n_0 := zN15.cell (j := 0) rfl
      have n_1 := zN15.cell (j := 1) rfl
      have n_2 := zN15.cell (j := 2) rfl
      have n_3 := zN15.cell (j := 3) rfl
      have n_4 := zN15.cell (j := 4) rfl
      have n_5 := zN15.cell (j := 5) rfl
      have n_6 := zN15.cell (j := 6) rfl
      have n_7 := zN15.cell (j := 7) rfl
      have n_8 := zN15.cell (j := 8) rfl
      have n_9 := zN15.cell (j := 9) rfl
      have u_0 := zT15.cell (j := 0) rfl
      have u_1 := zT15.cell (j := 1) rfl
      have u_2 := zT15.cell (j := 2) rfl
      have u_3 := zT15.cell (j := 3) rfl
      have u_4 := zT15.cell (j := 4) rfl
      have u_5 := zT15.cell (j := 5) rfl
      have u_6 := zT15.cell (j := 6) rfl
      have u_7 := zT15.cell (j := 7) rfl
      have u_8 := zT15.cell (j := 8) rfl
      have u_9 := zT15.cell (j := 9) rfl
      have u_10 := zT15.cell (j := 10) rfl
      have u_11 := zT15.cell (j := 11) rfl
      have b_0 := zB15.cell (j := 0) rfl
      have b_1 := zB15.cell (j := 1) rfl
      have b_2 := zB15.cell (j := 2) rfl
      have b_3 := zB15.cell (j := 3) rfl
      have b_4 := zB15.cell (j := 4) rfl
      have b_5 := zB15.cell (j := 5) rfl
      have b_6 := zB15.cell (j := 6) rfl
      have b_7 := zB15.cell (j := 7) rfl
      have b_8 := zB15.cell (j := 8) rfl
      have b_9 := zB15.cell (j := 9) rfl
      have b_10 := zB15.cell (j := 10) rfl
      have b_11 := zB15.cell (j := 11) rfl
      have v_0 := zK.cell (j := 0) rfl
      have v_1 := zK.cell (j := 1) rfl
      rw [hBc2.out] at b_0
      rw [tc2.out] at u_0
      rw [tV2.out] at u_3
      rw [tN2.out] at u_4
      rw [tG2.out] at u_6
      have hwr : IntKind.i64.wrap (n.View + 1) = n.View + 1 := by rw [IntKind.wrap_i64]; omega
      obtain ⟨hv0, hv200⟩ := hvb
      have hFd1 := field_ir
      have hFd2 := field_rs
      clear zN zT zB zN15 zT15 zB15 zK HCi u_0 u_11 b_1 b_2 b_3 b_4 b_5 b_6 b_7 b_8 b_9 b_10 v_0 hb13 b15 hv hq hv2 tc2 tV2 tN2 tG2 hBc2
      cases hs1 : (n.Size == 1) with
      | true =>
        rw [hs1] at hkv u_4 HFt HCs
        have h1 : n.Size = 1 := by simpa using hs1
        rw [h1] at n_1 HBs
        clear hs1 h1
        simp only [List.append_eq, List.cons_append, List.nil_append]
        refine wp_region_noPanic ?_
        refine wp_region_held_drew (S := (fun V => V.cell? ⟨bn, 0, none⟩ = some (.int .i64 n.Id) ∧ V.cell? ⟨bn, 1, none⟩ = some (.int .i64 1) ∧ V.cell? ⟨bn, 2, none⟩ = some (.int .i64 n.View) ∧ V.cell? ⟨bn, 3, none⟩ = some (.bool n.Normal) ∧ V.cell? ⟨bn, 4, none⟩ = some (.int .i64 n.Last) ∧ V.cell? ⟨bn, 5, none⟩ = some (.slice A5 n.Log.length c5) ∧ V.cell? ⟨bn, 6, none⟩ = some (.int .i64 n.Commit) ∧ V.cell? ⟨bn, 7, none⟩ = some (.slice A7 n.Oks.length c7) ∧ V.cell? ⟨bn, 8, none⟩ = some (.slice A8 n.Asks.length c8) ∧ V.cell? ⟨bn, 9, none⟩ = some (.slice A9 n.Doers.length c9) ∧ V.cell? ⟨bt, 1, none⟩ = some (.int .i64 T.Replica.Id) ∧ V.cell? ⟨bt, 2, none⟩ = some (.int .i64 T.Replica.Size) ∧ V.cell? ⟨bt, 3, none⟩ = some (.int .i64 (n.View + 1)) ∧ V.cell? ⟨bt, 4, none⟩ = some (.bool true) ∧ V.cell? ⟨bt, 5, none⟩ = some (.int .i64 T.Replica.Last) ∧ V.cell? ⟨bt, 6, none⟩ = some (.slice T6 n.Log.length T6') ∧ V.cell? ⟨bt, 7, none⟩ = some (.int .i64 T.Replica.Commit) ∧ V.cell? ⟨bt, 8, none⟩ = some (.slice T8 T.Replica.Oks.length T8') ∧ V.cell? ⟨bt, 9, none⟩ = some (.slice T9 T.Replica.Asks.length T9') ∧ V.cell? ⟨bt, 10, none⟩ = some (.slice T10 T.Replica.Doers.length T10') ∧ V.cell? ⟨w11.heap.size, 0, none⟩ = some (.int .i64 0) ∧ V.cell? ⟨w11.heap.size, 11, none⟩ = some (.slice B11 Bx.Send.length B11') ∧ V.cell? ⟨w13.heap.size, 1, none⟩ = some (.int .i64 kv))) (by kernel_rfl) ?_ (fun hHeld => ?_)
        · (try dsimp only); (first | (with_reducible exact ⟨n_0, n_1, n_2, n_3, n_4, n_5, n_6, n_7, n_8, n_9, u_1, u_2, u_3, u_4, u_5, u_6, u_7, u_8, u_9, u_10, b_0, b_11, v_1⟩) | (refine ⟨cell_below (show Below W15.heap.size W15 _ from ?_) n_0, cell_below (show Below W15.heap.size W15 _ from ?_) n_1, cell_below (show Below W15.heap.size W15 _ from ?_) n_2, cell_below (show Below W15.heap.size W15 _ from ?_) n_3, cell_below (show Below W15.heap.size W15 _ from ?_) n_4, cell_below (show Below W15.heap.size W15 _ from ?_) n_5, cell_below (show Below W15.heap.size W15 _ from ?_) n_6, cell_below (show Below W15.heap.size W15 _ from ?_) n_7, cell_below (show Below W15.heap.size W15 _ from ?_) n_8, cell_below (show Below W15.heap.size W15 _ from ?_) n_9, cell_below (show Below W15.heap.size W15 _ from ?_) u_1, cell_below (show Below W15.heap.size W15 _ from ?_) u_2, cell_below (show Below W15.heap.size W15 _ from ?_) u_3, cell_below (show Below W15.heap.size W15 _ from ?_) u_4, cell_below (show Below W15.heap.size W15 _ from ?_) u_5, cell_below (show Below W15.heap.size W15 _ from ?_) u_6, cell_below (show Below W15.heap.size W15 _ from ?_) u_7, cell_below (show Below W15.heap.size W15 _ from ?_) u_8, cell_below (show Below W15.heap.size W15 _ from ?_) u_9, cell_below (show Below W15.heap.size W15 _ from ?_) u_10, cell_below (show Below W15.heap.size W15 _ from ?_) b_0, cell_below (show Below W15.heap.size W15 _ from ?_) b_11, cell_below (show Below W15.heap.size W15 _ from ?_) v_1⟩ <;> ((repeat (first | (with_reducible assumption) | (with_reducible exact Below.refl _ _) | (with_reducible apply below_alloc) | (with_reducible apply below_drewN) | (with_reducible apply Below.drew) | (with_reducible refine below_set ?_ (by dsimp only; omega) _) | (with_reducible refine below_trans ?_ (by assumption)))); done)) | go_keep)
        refine wpAnyH_take (i := 0) (oi := { dst := some 98, op := Op.fieldAddr 33 (Operand.tmp 5) 1, type := 0, pos := "laws.go:414", after := #[], guard := none }) (v := ?_) rfl (by kernel_rfl) (by kernel_rfl) (by kernel_rfl) (fun _ _ _ h => h) (Or.inl ⟨by rfl, ?hy⟩) (by assumption) ?_
        case hy => ((intro w hSw; (try dsimp only at hSw); go_simp); (try with_reducible rfl))
        try simp only [Act.put, List.setIfInBounds_toArray, List.set_cons_zero, List.set_cons_succ]
        refine wpAnyH_take (i := 1) (oi := { dst := some 99, op := Op.load 29 (Operand.tmp 98), type := 29, pos := "laws.go:414", after := #[{ on := 0, ground := Ground.data }], guard := none }) (v := ?_) rfl (by kernel_rfl) (by kernel_rfl) (by kernel_rfl) (fun _ _ _ h => h) (Or.inl ⟨by rfl, ?hy⟩) (by assumption) ?_
        case hy => ((intro w hSw; (try dsimp only at hSw); go_simp); (try with_reducible rfl))
        try simp only [Act.put, List.setIfInBounds_toArray, List.set_cons_zero, List.set_cons_succ]
        refine wpAnyH_ready (rs := [2]) (by kernel_rfl) (by simp) ?_
        refine AllReadyH.cons (o := { dst := some 100, op := Op.call { callee := Callee.value (Operand.func 11), args := #[Operand.tmp 99], argTypes := #[29] }, type := 2, pos := "laws.go:414", after := #[{ on := 1, ground := Ground.data }], guard := none }) rfl (fun K hK => ?_) ?_
        · go_simp
          go_wp2_with (go_at_call 11; refine (HFt.out _ ?_).mono ?_; (focus ((repeat (first | (with_reducible assumption) | (with_reducible exact Below.refl _ _) | (with_reducible apply below_alloc) | (with_reducible apply below_drewN) | (with_reducible apply Below.drew) | (with_reducible refine below_set ?_ (by dsimp only; omega) _) | (with_reducible refine below_trans ?_ (by assumption)))); done)); rintro e wc ⟨rfl, hbc⟩)
          refine hK.out _ _ ?_ (fun hHeld => ?_)
          · (try dsimp only); (first | (with_reducible exact ⟨n_0, n_1, n_2, n_3, n_4, n_5, n_6, n_7, n_8, n_9, u_1, u_2, u_3, u_4, u_5, u_6, u_7, u_8, u_9, u_10, b_0, b_11, v_1⟩) | (refine ⟨cell_below (show Below W15.heap.size W15 _ from ?_) n_0, cell_below (show Below W15.heap.size W15 _ from ?_) n_1, cell_below (show Below W15.heap.size W15 _ from ?_) n_2, cell_below (show Below W15.heap.size W15 _ from ?_) n_3, cell_below (show Below W15.heap.size W15 _ from ?_) n_4, cell_below (show Below W15.heap.size W15 _ from ?_) n_5, cell_below (show Below W15.heap.size W15 _ from ?_) n_6, cell_below (show Below W15.heap.size W15 _ from ?_) n_7, cell_below (show Below W15.heap.size W15 _ from ?_) n_8, cell_below (show Below W15.heap.size W15 _ from ?_) n_9, cell_below (show Below W15.heap.size W15 _ from ?_) u_1, cell_below (show Below W15.heap.size W15 _ from ?_) u_2, cell_below (show Below W15.heap.size W15 _ from ?_) u_3, cell_below (show Below W15.heap.size W15 _ from ?_) u_4, cell_below (show Below W15.heap.size W15 _ from ?_) u_5, cell_below (show Below W15.heap.size W15 _ from ?_) u_6, cell_below (show Below W15.heap.size W15 _ from ?_) u_7, cell_below (show Below W15.heap.size W15 _ from ?_) u_8, cell_below (show Below W15.heap.size W15 _ from ?_) u_9, cell_below (show Below W15.heap.size W15 _ from ?_) u_10, cell_below (show Below W15.heap.size W15 _ from ?_) b_0, cell_below (show Below W15.heap.size W15 _ from ?_) b_11, cell_below (show Below W15.heap.size W15 _ from ?_) v_1⟩ <;> ((repeat (first | (with_reducible assumption) | (with_reducible exact Below.refl _ _) | (with_reducible apply below_alloc) | (with_reducible apply below_drewN) | (with_reducible apply Below.drew) | (with_reducible refine below_set ?_ (by dsimp only; omega) _) | (with_reducible refine below_trans ?_ (by assumption)))); done)) | go_keep)
          clear hK K
          try simp only [Act.put, List.setIfInBounds_toArray, List.set_cons_zero, List.set_cons_succ]
          refine wpAnyH_take (i := 3) (oi := { dst := some 101, op := Op.binOp BinOp.eql 2 (Operand.tmp 100) (Operand.const (Value.int IntKind.i64 0)) 2, type := 4, pos := "laws.go:414", after := #[{ on := 2, ground := Ground.data }], guard := none }) (v := ?_) rfl (by kernel_rfl) (by kernel_rfl) (by kernel_rfl) (fun _ _ _ h => h) (Or.inl ⟨by rfl, ?hy⟩) (by assumption) ?_
          case hy => ((intro w hSw; (try dsimp only at hSw); go_simp); (try with_reducible rfl))
          try simp only [Act.put, List.setIfInBounds_toArray, List.set_cons_zero, List.set_cons_succ]
          refine wpAnyH_take (i := 4) (oi := { dst := some 102, op := Op.move (Operand.tmp 101), type := 4, pos := "laws.go:414", after := #[{ on := 3, ground := Ground.data }, { on := 2, ground := Ground.chain }], guard := none }) (v := ?_) rfl (by kernel_rfl) (by kernel_rfl) (by kernel_rfl) (fun _ _ _ h => h) (Or.inl ⟨by rfl, ?hy⟩) (by assumption) ?_
          case hy => ((intro w hSw; (try dsimp only at hSw); go_simp); (try with_reducible rfl))
          try simp only [Act.put, List.setIfInBounds_toArray, List.set_cons_zero, List.set_cons_succ]
          refine wpAnyH_take (i := 5) (oi := { dst := some 103, op := Op.fieldAddr 33 (Operand.tmp 5) 1, type := 0, pos := "laws.go:414", after := #[{ on := 4, ground := Ground.guard }], guard := some (4, true) }) (v := ?_) rfl (by kernel_rfl) (by kernel_rfl) (by kernel_rfl) (fun _ _ _ h => h) (Or.inl ⟨by rfl, ?hy⟩) (by assumption) ?_
          case hy => ((intro w hSw; (try dsimp only at hSw); go_simp); (try with_reducible rfl))
          try simp only [Act.put, List.setIfInBounds_toArray, List.set_cons_zero, List.set_cons_succ]
          refine wpAnyH_take (i := 6) (oi := { dst := some 104, op := Op.fieldAddr 29 (Operand.tmp 103) 2, type := 0, pos := "laws.go:414", after := #[{ on := 5, ground := Ground.data }, { on := 4, ground := Ground.guard }], guard := some (4, true) }) (v := ?_) rfl (by kernel_rfl) (by kernel_rfl) (by kernel_rfl) (fun _ _ _ h => h) (Or.inl ⟨by rfl, ?hy⟩) (by assumption) ?_
          case hy => ((intro w hSw; (try dsimp only at hSw); go_simp); (try with_reducible rfl))
          try simp only [Act.put, List.setIfInBounds_toArray, List.set_cons_zero, List.set_cons_succ]
          refine wpAnyH_take (i := 7) (oi := { dst := some 105, op := Op.load 2 (Operand.tmp 104), type := 2, pos := "laws.go:414", after := #[{ on := 6, ground := Ground.data }, { on := 4, ground := Ground.guard }], guard := some (4, true) }) (v := ?_) rfl (by kernel_rfl) (by kernel_rfl) (by kernel_rfl) (fun _ _ _ h => h) (Or.inl ⟨by rfl, ?hy⟩) (by assumption) ?_
          case hy => ((intro w hSw; (try dsimp only at hSw); go_simp); (try with_reducible rfl))
          try simp only [Act.put, List.setIfInBounds_toArray, List.set_cons_zero, List.set_cons_succ]
          refine wpAnyH_take (i := 8) (oi := { dst := some 106, op := Op.fieldAddr 29 (Operand.tmp 3) 2, type := 0, pos := "laws.go:414", after := #[{ on := 4, ground := Ground.guard }], guard := some (4, true) }) (v := ?_) rfl (by kernel_rfl) (by kernel_rfl) (by kernel_rfl) (fun _ _ _ h => h) (Or.inl ⟨by rfl, ?hy⟩) (by assumption) ?_
          case hy => ((intro w hSw; (try dsimp only at hSw); go_simp); (try with_reducible rfl))
          try simp only [Act.put, List.setIfInBounds_toArray, List.set_cons_zero, List.set_cons_succ]
          refine wpAnyH_take (i := 9) (oi := { dst := some 107, op := Op.load 2 (Operand.tmp 106), type := 2, pos := "laws.go:414", after := #[{ on := 8, ground := Ground.data }, { on := 4, ground := Ground.guard }], guard := some (4, true) }) (v := ?_) rfl (by kernel_rfl) (by kernel_rfl) (by kernel_rfl) (fun _ _ _ h => h) (Or.inl ⟨by rfl, ?hy⟩) (by assumption) ?_
          case hy => ((intro w hSw; (try dsimp only at hSw); go_simp); (try with_reducible rfl))
          try simp only [Act.put, List.setIfInBounds_toArray, List.set_cons_zero, List.set_cons_succ]
          refine wpAnyH_take (i := 10) (oi := { dst := some 108, op := Op.binOp BinOp.add 2 (Operand.tmp 107) (Operand.const (Value.int IntKind.i64 1)) 2, type := 2, pos := "laws.go:414", after := #[{ on := 9, ground := Ground.data }, { on := 4, ground := Ground.guard }], guard := some (4, true) }) (v := ?_) rfl (by kernel_rfl) (by kernel_rfl) (by kernel_rfl) (fun _ _ _ h => h) (Or.inl ⟨by rfl, ?hy⟩) (by assumption) ?_
          case hy => ((intro w hSw; (try dsimp only at hSw); go_simp); (try with_reducible rfl))
          try simp only [Act.put, List.setIfInBounds_toArray, List.set_cons_zero, List.set_cons_succ]
          refine wpAnyH_take (i := 11) (oi := { dst := some 109, op := Op.binOp BinOp.eql 2 (Operand.tmp 105) (Operand.tmp 108) 2, type := 4, pos := "laws.go:414", after := #[{ on := 7, ground := Ground.data }, { on := 10, ground := Ground.data }, { on := 4, ground := Ground.guard }], guard := some (4, true) }) (v := ?_) rfl (by kernel_rfl) (by kernel_rfl) (by kernel_rfl) (fun _ _ _ h => h) (Or.inl ⟨by rfl, ?hy⟩) (by assumption) ?_
          case hy => ((intro w hSw; (try dsimp only at hSw); go_simp); (try with_reducible rfl))
          try simp only [Act.put, List.setIfInBounds_toArray, List.set_cons_zero, List.set_cons_succ]
          refine wpAnyH_take (i := 12) (oi := { dst := some 110, op := Op.pick (Operand.tmp 102) (Operand.tmp 109) (Operand.const (Value.bool false)), type := 4, pos := "laws.go:414", after := #[{ on := 4, ground := Ground.data }, { on := 11, ground := Ground.data }], guard := none }) (v := ?_) rfl (by kernel_rfl) (by kernel_rfl) (by kernel_rfl) (fun _ _ _ h => h) (Or.inl ⟨by rfl, ?hy⟩) (by assumption) ?_
          case hy => ((intro w hSw; (try dsimp only at hSw); go_simp); (try with_reducible rfl))
          try simp only [Act.put, List.setIfInBounds_toArray, List.set_cons_zero, List.set_cons_succ]
          refine wpAnyH_take (i := 13) (oi := { dst := some 111, op := Op.move (Operand.tmp 110), type := 4, pos := "laws.go:414", after := #[{ on := 12, ground := Ground.data }, { on := 4, ground := Ground.chain }], guard := none }) (v := ?_) rfl (by kernel_rfl) (by kernel_rfl) (by kernel_rfl) (fun _ _ _ h => h) (Or.inl ⟨by rfl, ?hy⟩) (by assumption) ?_
          case hy => ((intro w hSw; (try dsimp only at hSw); go_simp); (try with_reducible rfl))
          try simp only [Act.put, List.setIfInBounds_toArray, List.set_cons_zero, List.set_cons_succ]
          refine wpAnyH_take (i := 14) (oi := { dst := some 112, op := Op.fieldAddr 33 (Operand.tmp 5) 1, type := 0, pos := "laws.go:414", after := #[{ on := 13, ground := Ground.guard }], guard := some (13, true) }) (v := ?_) rfl (by kernel_rfl) (by kernel_rfl) (by kernel_rfl) (fun _ _ _ h => h) (Or.inl ⟨by rfl, ?hy⟩) (by assumption) ?_
          case hy => ((intro w hSw; (try dsimp only at hSw); go_simp); (try with_reducible rfl))
          try simp only [Act.put, List.setIfInBounds_toArray, List.set_cons_zero, List.set_cons_succ]
          refine wpAnyH_take (i := 15) (oi := { dst := some 113, op := Op.fieldAddr 29 (Operand.tmp 112) 5, type := 0, pos := "laws.go:414", after := #[{ on := 14, ground := Ground.data }, { on := 13, ground := Ground.guard }], guard := some (13, true) }) (v := ?_) rfl (by kernel_rfl) (by kernel_rfl) (by kernel_rfl) (fun _ _ _ h => h) (Or.inl ⟨by rfl, ?hy⟩) (by assumption) ?_
          case hy => ((intro w hSw; (try dsimp only at hSw); go_simp); (try with_reducible rfl))
          try simp only [Act.put, List.setIfInBounds_toArray, List.set_cons_zero, List.set_cons_succ]
          refine wpAnyH_take (i := 16) (oi := { dst := some 114, op := Op.load 24 (Operand.tmp 113), type := 24, pos := "laws.go:414", after := #[{ on := 15, ground := Ground.data }, { on := 13, ground := Ground.guard }], guard := some (13, true) }) (v := ?_) rfl (by kernel_rfl) (by kernel_rfl) (by kernel_rfl) (fun _ _ _ h => h) (Or.inl ⟨by rfl, ?hy⟩) (by assumption) ?_
          case hy => ((intro w hSw; (try dsimp only at hSw); go_simp); (try with_reducible rfl))
          try simp only [Act.put, List.setIfInBounds_toArray, List.set_cons_zero, List.set_cons_succ]
          refine wpAnyH_take (i := 17) (oi := { dst := some 115, op := Op.call { callee := Callee.builtin Builtin.len, args := #[Operand.tmp 114], argTypes := #[24] }, type := 3, pos := "laws.go:414", after := #[{ on := 16, ground := Ground.data }, { on := 13, ground := Ground.guard }], guard := some (13, true) }) (v := ?_) rfl (by kernel_rfl) (by kernel_rfl) (by kernel_rfl) (fun _ _ _ h => h) (Or.inl ⟨by rfl, ?hy⟩) (by assumption) ?_
          case hy => ((intro w hSw; (try dsimp only at hSw); go_simp); (try with_reducible rfl))
          try simp only [Act.put, List.setIfInBounds_toArray, List.set_cons_zero, List.set_cons_succ]
          refine wpAnyH_take (i := 18) (oi := { dst := some 116, op := Op.fieldAddr 29 (Operand.tmp 3) 5, type := 0, pos := "laws.go:414", after := #[{ on := 13, ground := Ground.guard }], guard := some (13, true) }) (v := ?_) rfl (by kernel_rfl) (by kernel_rfl) (by kernel_rfl) (fun _ _ _ h => h) (Or.inl ⟨by rfl, ?hy⟩) (by assumption) ?_
          case hy => ((intro w hSw; (try dsimp only at hSw); go_simp); (try with_reducible rfl))
          try simp only [Act.put, List.setIfInBounds_toArray, List.set_cons_zero, List.set_cons_succ]
          refine wpAnyH_take (i := 19) (oi := { dst := some 117, op := Op.load 24 (Operand.tmp 116), type := 24, pos := "laws.go:414", after := #[{ on := 18, ground := Ground.data }, { on := 13, ground := Ground.guard }], guard := some (13, true) }) (v := ?_) rfl (by kernel_rfl) (by kernel_rfl) (by kernel_rfl) (fun _ _ _ h => h) (Or.inl ⟨by rfl, ?hy⟩) (by assumption) ?_
          case hy => ((intro w hSw; (try dsimp only at hSw); go_simp); (try with_reducible rfl))
          try simp only [Act.put, List.setIfInBounds_toArray, List.set_cons_zero, List.set_cons_succ]
          refine wpAnyH_take (i := 20) (oi := { dst := some 118, op := Op.call { callee := Callee.builtin Builtin.len, args := #[Operand.tmp 117], argTypes := #[24] }, type := 3, pos := "laws.go:414", after := #[{ on := 19, ground := Ground.data }, { on := 13, ground := Ground.guard }], guard := some (13, true) }) (v := ?_) rfl (by kernel_rfl) (by kernel_rfl) (by kernel_rfl) (fun _ _ _ h => h) (Or.inl ⟨by rfl, ?hy⟩) (by assumption) ?_
          case hy => ((intro w hSw; (try dsimp only at hSw); go_simp); (try with_reducible rfl))
          try simp only [Act.put, List.setIfInBounds_toArray, List.set_cons_zero, List.set_cons_succ]
          refine wpAnyH_take (i := 21) (oi := { dst := some 119, op := Op.binOp BinOp.eql 3 (Operand.tmp 115) (Operand.tmp 118) 3, type := 4, pos := "laws.go:414", after := #[{ on := 17, ground := Ground.data }, { on := 20, ground := Ground.data }, { on := 13, ground := Ground.guard }], guard := some (13, true) }) (v := ?_) rfl (by kernel_rfl) (by kernel_rfl) (by kernel_rfl) (fun _ _ _ h => h) (Or.inl ⟨by rfl, ?hy⟩) (by assumption) ?_
          case hy => ((intro w hSw; (try dsimp only at hSw); go_simp); (try with_reducible rfl))
          try simp only [Act.put, List.setIfInBounds_toArray, List.set_cons_zero, List.set_cons_succ]
          refine wpAnyH_take (i := 22) (oi := { dst := some 120, op := Op.pick (Operand.tmp 111) (Operand.tmp 119) (Operand.const (Value.bool false)), type := 4, pos := "laws.go:414", after := #[{ on := 13, ground := Ground.data }, { on := 21, ground := Ground.data }], guard := none }) (v := ?_) rfl (by kernel_rfl) (by kernel_rfl) (by kernel_rfl) (fun _ _ _ h => h) (Or.inl ⟨by rfl, ?hy⟩) (by assumption) ?_
          case hy => ((intro w hSw; (try dsimp only at hSw); go_simp); (try with_reducible rfl))
          try simp only [Act.put, List.setIfInBounds_toArray, List.set_cons_zero, List.set_cons_succ]
          refine wpAnyH_take (i := 23) (oi := { dst := some 121, op := Op.move (Operand.tmp 120), type := 4, pos := "laws.go:414", after := #[{ on := 22, ground := Ground.data }, { on := 13, ground := Ground.chain }], guard := none }) (v := ?_) rfl (by kernel_rfl) (by kernel_rfl) (by kernel_rfl) (fun _ _ _ h => h) (Or.inl ⟨by rfl, ?hy⟩) (by assumption) ?_
          case hy => ((intro w hSw; (try dsimp only at hSw); go_simp); (try with_reducible rfl))
          try simp only [Act.put, List.setIfInBounds_toArray, List.set_cons_zero, List.set_cons_succ]
          refine wpAnyH_take (i := 24) (oi := { dst := some 122, op := Op.fieldAddr 29 (Operand.tmp 3) 1, type := 0, pos := "laws.go:414", after := #[{ on := 23, ground := Ground.guard }], guard := some (23, true) }) (v := ?_) rfl (by kernel_rfl) (by kernel_rfl) (by kernel_rfl) (fun _ _ _ h => h) (Or.inl ⟨by rfl, ?hy⟩) (by assumption) ?_
          case hy => ((intro w hSw; (try dsimp only at hSw); go_simp); (try with_reducible rfl))
          try simp only [Act.put, List.setIfInBounds_toArray, List.set_cons_zero, List.set_cons_succ]
          refine wpAnyH_take (i := 25) (oi := { dst := some 123, op := Op.load 2 (Operand.tmp 122), type := 2, pos := "laws.go:414", after := #[{ on := 24, ground := Ground.data }, { on := 23, ground := Ground.guard }], guard := some (23, true) }) (v := ?_) rfl (by kernel_rfl) (by kernel_rfl) (by kernel_rfl) (fun _ _ _ h => h) (Or.inl ⟨by rfl, ?hy⟩) (by assumption) ?_
          case hy => ((intro w hSw; (try dsimp only at hSw); go_simp); (try with_reducible rfl))
          try simp only [Act.put, List.setIfInBounds_toArray, List.set_cons_zero, List.set_cons_succ]
          refine wpAnyH_take (i := 26) (oi := { dst := some 124, op := Op.binOp BinOp.eql 2 (Operand.tmp 123) (Operand.const (Value.int IntKind.i64 1)) 2, type := 4, pos := "laws.go:414", after := #[{ on := 25, ground := Ground.data }, { on := 23, ground := Ground.guard }], guard := some (23, true) }) (v := ?_) rfl (by kernel_rfl) (by kernel_rfl) (by kernel_rfl) (fun _ _ _ h => h) (Or.inl ⟨by rfl, ?hy⟩) (by assumption) ?_
          case hy => ((intro w hSw; (try dsimp only at hSw); go_simp); (try with_reducible rfl))
          try simp only [Act.put, List.setIfInBounds_toArray, List.set_cons_zero, List.set_cons_succ]
          refine wpAnyH_take (i := 27) (oi := { dst := some 125, op := Op.fieldAddr 33 (Operand.tmp 5) 1, type := 0, pos := "laws.go:414", after := #[{ on := 23, ground := Ground.guard }], guard := some (23, true) }) (v := ?_) rfl (by kernel_rfl) (by kernel_rfl) (by kernel_rfl) (fun _ _ _ h => h) (Or.inl ⟨by rfl, ?hy⟩) (by assumption) ?_
          case hy => ((intro w hSw; (try dsimp only at hSw); go_simp); (try with_reducible rfl))
          try simp only [Act.put, List.setIfInBounds_toArray, List.set_cons_zero, List.set_cons_succ]
          refine wpAnyH_take (i := 28) (oi := { dst := some 126, op := Op.fieldAddr 29 (Operand.tmp 125) 3, type := 0, pos := "laws.go:414", after := #[{ on := 27, ground := Ground.data }, { on := 23, ground := Ground.guard }], guard := some (23, true) }) (v := ?_) rfl (by kernel_rfl) (by kernel_rfl) (by kernel_rfl) (fun _ _ _ h => h) (Or.inl ⟨by rfl, ?hy⟩) (by assumption) ?_
          case hy => ((intro w hSw; (try dsimp only at hSw); go_simp); (try with_reducible rfl))
          try simp only [Act.put, List.setIfInBounds_toArray, List.set_cons_zero, List.set_cons_succ]
          refine wpAnyH_take (i := 29) (oi := { dst := some 127, op := Op.load 4 (Operand.tmp 126), type := 4, pos := "laws.go:414", after := #[{ on := 28, ground := Ground.data }, { on := 23, ground := Ground.guard }], guard := some (23, true) }) (v := ?_) rfl (by kernel_rfl) (by kernel_rfl) (by kernel_rfl) (fun _ _ _ h => h) (Or.inl ⟨by rfl, ?hy⟩) (by assumption) ?_
          case hy => ((intro w hSw; (try dsimp only at hSw); go_simp); (try with_reducible rfl))
          try simp only [Act.put, List.setIfInBounds_toArray, List.set_cons_zero, List.set_cons_succ]
          refine wpAnyH_take (i := 30) (oi := { dst := some 128, op := Op.binOp BinOp.eql 4 (Operand.tmp 124) (Operand.tmp 127) 4, type := 4, pos := "laws.go:414", after := #[{ on := 26, ground := Ground.data }, { on := 29, ground := Ground.data }, { on := 23, ground := Ground.guard }], guard := some (23, true) }) (v := ?_) rfl (by kernel_rfl) (by kernel_rfl) (by kernel_rfl) (fun _ _ _ h => h) (Or.inl ⟨by rfl, ?hy⟩) (by assumption) ?_
          case hy => ((intro w hSw; (try dsimp only at hSw); go_simp); (try with_reducible rfl))
          try simp only [Act.put, List.setIfInBounds_toArray, List.set_cons_zero, List.set_cons_succ]
          refine wpAnyH_take (i := 31) (oi := { dst := some 129, op := Op.pick (Operand.tmp 121) (Operand.tmp 128) (Operand.const (Value.bool false)), type := 4, pos := "laws.go:414", after := #[{ on := 23, ground := Ground.data }, { on := 30, ground := Ground.data }], guard := none }) (v := ?_) rfl (by kernel_rfl) (by kernel_rfl) (by kernel_rfl) (fun _ _ _ h => h) (Or.inl ⟨by rfl, ?hy⟩) (by assumption) ?_
          case hy => ((intro w hSw; (try dsimp only at hSw); go_simp); (try with_reducible rfl))
          try simp only [Act.put, List.setIfInBounds_toArray, List.set_cons_zero, List.set_cons_succ]
          refine wpAnyH_take (i := 32) (oi := { dst := some 130, op := Op.move (Operand.tmp 129), type := 4, pos := "laws.go:414", after := #[{ on := 31, ground := Ground.data }, { on := 23, ground := Ground.chain }], guard := none }) (v := ?_) rfl (by kernel_rfl) (by kernel_rfl) (by kernel_rfl) (fun _ _ _ h => h) (Or.inl ⟨by rfl, ?hy⟩) (by assumption) ?_
          case hy => ((intro w hSw; (try dsimp only at hSw); go_simp); (try with_reducible rfl))
          try simp only [Act.put, List.setIfInBounds_toArray, List.set_cons_zero, List.set_cons_succ]
          refine wpAnyH_take (i := 33) (oi := { dst := some 131, op := Op.fieldAddr 38 (Operand.tmp 8) 1, type := 0, pos := "laws.go:414", after := #[{ on := 32, ground := Ground.guard }], guard := some (32, true) }) (v := ?_) rfl (by kernel_rfl) (by kernel_rfl) (by kernel_rfl) (fun _ _ _ h => h) (Or.inl ⟨by rfl, ?hy⟩) (by assumption) ?_
          case hy => ((intro w hSw; (try dsimp only at hSw); go_simp); (try with_reducible rfl))
          try simp only [Act.put, List.setIfInBounds_toArray, List.set_cons_zero, List.set_cons_succ]
          refine wpAnyH_take (i := 34) (oi := { dst := some 132, op := Op.load 2 (Operand.tmp 131), type := 2, pos := "laws.go:414", after := #[{ on := 33, ground := Ground.data }, { on := 32, ground := Ground.guard }], guard := some (32, true) }) (v := ?_) rfl (by kernel_rfl) (by kernel_rfl) (by kernel_rfl) (fun _ _ _ h => h) (Or.inl ⟨by rfl, ?hy⟩) (by assumption) ?_
          case hy => ((intro w hSw; (try dsimp only at hSw); go_simp); (try with_reducible rfl))
          try simp only [Act.put, List.setIfInBounds_toArray, List.set_cons_zero, List.set_cons_succ]
          refine wpAnyH_take (i := 35) (oi := { dst := some 133, op := Op.fieldAddr 33 (Operand.tmp 5) 1, type := 0, pos := "laws.go:414", after := #[{ on := 32, ground := Ground.guard }], guard := some (32, true) }) (v := ?_) rfl (by kernel_rfl) (by kernel_rfl) (by kernel_rfl) (fun _ _ _ h => h) (Or.inl ⟨by rfl, ?hy⟩) (by assumption) ?_
          case hy => ((intro w hSw; (try dsimp only at hSw); go_simp); (try with_reducible rfl))
          try simp only [Act.put, List.setIfInBounds_toArray, List.set_cons_zero, List.set_cons_succ]
          refine wpAnyH_take (i := 36) (oi := { dst := some 134, op := Op.load 29 (Operand.tmp 133), type := 29, pos := "laws.go:414", after := #[{ on := 35, ground := Ground.data }, { on := 32, ground := Ground.guard }], guard := some (32, true) }) (v := ?_) rfl (by kernel_rfl) (by kernel_rfl) (by kernel_rfl) (fun _ _ _ h => h) (Or.inl ⟨by rfl, ?hy⟩) (by assumption) ?_
          case hy => ((intro w hSw; (try dsimp only at hSw); go_simp); (try with_reducible rfl))
          try simp only [Act.put, List.setIfInBounds_toArray, List.set_cons_zero, List.set_cons_succ]
          refine wpAnyH_ready (rs := [37]) (by kernel_rfl) (by simp) ?_
          refine AllReadyH.cons (o := { dst := some 135, op := Op.call { callee := Callee.value (Operand.func 15), args := #[Operand.tmp 134], argTypes := #[29] }, type := 38, pos := "laws.go:414", after := #[{ on := 36, ground := Ground.data }, { on := 32, ground := Ground.chain }, { on := 32, ground := Ground.guard }], guard := some (32, true) }) rfl (fun K hK => ?_) ?_
          · go_simp
            go_wp2_with (go_at_call 15; refine (HCs.out _ ?_).mono ?_; (focus ((repeat (first | (with_reducible assumption) | (with_reducible exact Below.refl _ _) | (with_reducible apply below_alloc) | (with_reducible apply below_drewN) | (with_reducible apply Below.drew) | (with_reducible refine below_set ?_ (by dsimp only; omega) _) | (with_reducible refine below_trans ?_ (by assumption)))); done)); rintro e wc ⟨rfl, hbc⟩)
            refine hK.out _ _ ?_ (fun hHeld => ?_)
            · (try dsimp only); (first | (with_reducible exact ⟨n_0, n_1, n_2, n_3, n_4, n_5, n_6, n_7, n_8, n_9, u_1, u_2, u_3, u_4, u_5, u_6, u_7, u_8, u_9, u_10, b_0, b_11, v_1⟩) | (refine ⟨cell_below (show Below W15.heap.size W15 _ from ?_) n_0, cell_below (show Below W15.heap.size W15 _ from ?_) n_1, cell_below (show Below W15.heap.size W15 _ from ?_) n_2, cell_below (show Below W15.heap.size W15 _ from ?_) n_3, cell_below (show Below W15.heap.size W15 _ from ?_) n_4, cell_below (show Below W15.heap.size W15 _ from ?_) n_5, cell_below (show Below W15.heap.size W15 _ from ?_) n_6, cell_below (show Below W15.heap.size W15 _ from ?_) n_7, cell_below (show Below W15.heap.size W15 _ from ?_) n_8, cell_below (show Below W15.heap.size W15 _ from ?_) n_9, cell_below (show Below W15.heap.size W15 _ from ?_) u_1, cell_below (show Below W15.heap.size W15 _ from ?_) u_2, cell_below (show Below W15.heap.size W15 _ from ?_) u_3, cell_below (show Below W15.heap.size W15 _ from ?_) u_4, cell_below (show Below W15.heap.size W15 _ from ?_) u_5, cell_below (show Below W15.heap.size W15 _ from ?_) u_6, cell_below (show Below W15.heap.size W15 _ from ?_) u_7, cell_below (show Below W15.heap.size W15 _ from ?_) u_8, cell_below (show Below W15.heap.size W15 _ from ?_) u_9, cell_below (show Below W15.heap.size W15 _ from ?_) u_10, cell_below (show Below W15.heap.size W15 _ from ?_) b_0, cell_below (show Below W15.heap.size W15 _ from ?_) b_11, cell_below (show Below W15.heap.size W15 _ from ?_) v_1⟩ <;> ((repeat (first | (with_reducible assumption) | (with_reducible exact Below.refl _ _) | (with_reducible apply below_alloc) | (with_reducible apply below_drewN) | (with_reducible apply Below.drew) | (with_reducible refine below_set ?_ (by dsimp only; omega) _) | (with_reducible refine below_trans ?_ (by assumption)))); done)) | go_keep)
            clear hK K
            try simp only [Act.put, List.setIfInBounds_toArray, List.set_cons_zero, List.set_cons_succ]
            refine wpAnyH_take (i := 38) (oi := { dst := some 136, op := Op.field 38 (Operand.tmp 135) 1, type := 2, pos := "laws.go:414", after := #[{ on := 37, ground := Ground.data }, { on := 32, ground := Ground.guard }], guard := some (32, true) }) (v := ?_) rfl (by kernel_rfl) (by kernel_rfl) (by kernel_rfl) (fun _ _ _ h => h) (Or.inl ⟨by rfl, ?hy⟩) (by assumption) ?_
            case hy => ((intro w hSw; (try dsimp only at hSw); go_simp); (try with_reducible rfl))
            try simp only [Act.put, List.setIfInBounds_toArray, List.set_cons_zero, List.set_cons_succ]
            refine wpAnyH_take (i := 39) (oi := { dst := some 137, op := Op.binOp BinOp.eql 2 (Operand.tmp 132) (Operand.tmp 136) 2, type := 4, pos := "laws.go:414", after := #[{ on := 34, ground := Ground.data }, { on := 38, ground := Ground.data }, { on := 32, ground := Ground.guard }], guard := some (32, true) }) (v := ?_) rfl (by kernel_rfl) (by kernel_rfl) (by kernel_rfl) (fun _ _ _ h => h) (Or.inl ⟨by rfl, ?hy⟩) (by assumption) ?_
            case hy => ((intro w hSw; (try dsimp only at hSw); go_simp); (try with_reducible rfl))
            try simp only [Act.put, List.setIfInBounds_toArray, List.set_cons_zero, List.set_cons_succ]
            refine wpAnyH_take (i := 40) (oi := { dst := some 138, op := Op.pick (Operand.tmp 130) (Operand.tmp 137) (Operand.const (Value.bool false)), type := 4, pos := "laws.go:414", after := #[{ on := 32, ground := Ground.data }, { on := 39, ground := Ground.data }], guard := none }) (v := ?_) rfl (by kernel_rfl) (by kernel_rfl) (by kernel_rfl) (fun _ _ _ h => h) (Or.inl ⟨by rfl, ?hy⟩) (by assumption) ?_
            case hy => ((intro w hSw; (try dsimp only at hSw); go_simp); (try with_reducible rfl))
            try simp only [Act.put, List.setIfInBounds_toArray, List.set_cons_zero, List.set_cons_succ]
            refine wpAnyH_take (i := 41) (oi := { dst := some 139, op := Op.move (Operand.tmp 138), type := 4, pos := "laws.go:414", after := #[{ on := 40, ground := Ground.data }, { on := 37, ground := Ground.chain }], guard := none }) (v := ?_) rfl (by kernel_rfl) (by kernel_rfl) (by kernel_rfl) (fun _ _ _ h => h) (Or.inl ⟨by rfl, ?hy⟩) (by assumption) ?_
            case hy => ((intro w hSw; (try dsimp only at hSw); go_simp); (try with_reducible rfl))
            try simp only [Act.put, List.setIfInBounds_toArray, List.set_cons_zero, List.set_cons_succ]
            refine wpAnyH_take (i := 42) (oi := { dst := some 140, op := Op.fieldAddr 29 (Operand.tmp 3) 1, type := 0, pos := "laws.go:414", after := #[{ on := 41, ground := Ground.guard }], guard := some (41, true) }) (v := ?_) rfl (by kernel_rfl) (by kernel_rfl) (by kernel_rfl) (fun _ _ _ h => h) (Or.inl ⟨by rfl, ?hy⟩) (by assumption) ?_
            case hy => ((intro w hSw; (try dsimp only at hSw); go_simp); (try with_reducible rfl))
            try simp only [Act.put, List.setIfInBounds_toArray, List.set_cons_zero, List.set_cons_succ]
            refine wpAnyH_take (i := 43) (oi := { dst := some 141, op := Op.load 2 (Operand.tmp 140), type := 2, pos := "laws.go:414", after := #[{ on := 42, ground := Ground.data }, { on := 41, ground := Ground.guard }], guard := some (41, true) }) (v := ?_) rfl (by kernel_rfl) (by kernel_rfl) (by kernel_rfl) (fun _ _ _ h => h) (Or.inl ⟨by rfl, ?hy⟩) (by assumption) ?_
            case hy => ((intro w hSw; (try dsimp only at hSw); go_simp); (try with_reducible rfl))
            try simp only [Act.put, List.setIfInBounds_toArray, List.set_cons_zero, List.set_cons_succ]
            refine wpAnyH_take (i := 44) (oi := { dst := some 142, op := Op.binOp BinOp.eql 2 (Operand.tmp 141) (Operand.const (Value.int IntKind.i64 1)) 2, type := 4, pos := "laws.go:414", after := #[{ on := 43, ground := Ground.data }, { on := 41, ground := Ground.guard }], guard := some (41, true) }) (v := ?_) rfl (by kernel_rfl) (by kernel_rfl) (by kernel_rfl) (fun _ _ _ h => h) (Or.inl ⟨by rfl, ?hy⟩) (by assumption) ?_
            case hy => ((intro w hSw; (try dsimp only at hSw); go_simp); (try with_reducible rfl))
            try simp only [Act.put, List.setIfInBounds_toArray, List.set_cons_zero, List.set_cons_succ]
            refine wpAnyH_take (i := 45) (oi := { dst := some 143, op := Op.move (Operand.tmp 142), type := 4, pos := "laws.go:414", after := #[{ on := 44, ground := Ground.data }, { on := 41, ground := Ground.chain }, { on := 41, ground := Ground.guard }], guard := some (41, true) }) (v := ?_) rfl (by kernel_rfl) (by kernel_rfl) (by kernel_rfl) (fun _ _ _ h => h) (Or.inl ⟨by rfl, ?hy⟩) (by assumption) ?_
            case hy => ((intro w hSw; (try dsimp only at hSw); go_simp); (try with_reducible rfl))
            try simp only [Act.put, List.setIfInBounds_toArray, List.set_cons_zero, List.set_cons_succ]
            refine wpAnyH_ready (rs := [46]) (by kernel_rfl) (by simp) ?_
            refine AllReadyH.cons (o := { dst := some 144, op := Op.fieldAddr 38 (Operand.tmp 8) 1, type := 0, pos := "laws.go:414", after := #[{ on := 45, ground := Ground.guard }], guard := some (45, false) }) rfl (fun K hK => ?_) ?_
            · go_simp
              refine hK.out _ _ ?_ (fun hHeld => ?_)
              · (try dsimp only); (first | (with_reducible exact ⟨n_0, n_1, n_2, n_3, n_4, n_5, n_6, n_7, n_8, n_9, u_1, u_2, u_3, u_4, u_5, u_6, u_7, u_8, u_9, u_10, b_0, b_11, v_1⟩) | (refine ⟨cell_below (show Below W15.heap.size W15 _ from ?_) n_0, cell_below (show Below W15.heap.size W15 _ from ?_) n_1, cell_below (show Below W15.heap.size W15 _ from ?_) n_2, cell_below (show Below W15.heap.size W15 _ from ?_) n_3, cell_below (show Below W15.heap.size W15 _ from ?_) n_4, cell_below (show Below W15.heap.size W15 _ from ?_) n_5, cell_below (show Below W15.heap.size W15 _ from ?_) n_6, cell_below (show Below W15.heap.size W15 _ from ?_) n_7, cell_below (show Below W15.heap.size W15 _ from ?_) n_8, cell_below (show Below W15.heap.size W15 _ from ?_) n_9, cell_below (show Below W15.heap.size W15 _ from ?_) u_1, cell_below (show Below W15.heap.size W15 _ from ?_) u_2, cell_below (show Below W15.heap.size W15 _ from ?_) u_3, cell_below (show Below W15.heap.size W15 _ from ?_) u_4, cell_below (show Below W15.heap.size W15 _ from ?_) u_5, cell_below (show Below W15.heap.size W15 _ from ?_) u_6, cell_below (show Below W15.heap.size W15 _ from ?_) u_7, cell_below (show Below W15.heap.size W15 _ from ?_) u_8, cell_below (show Below W15.heap.size W15 _ from ?_) u_9, cell_below (show Below W15.heap.size W15 _ from ?_) u_10, cell_below (show Below W15.heap.size W15 _ from ?_) b_0, cell_below (show Below W15.heap.size W15 _ from ?_) b_11, cell_below (show Below W15.heap.size W15 _ from ?_) v_1⟩ <;> ((repeat (first | (with_reducible assumption) | (with_reducible exact Below.refl _ _) | (with_reducible apply below_alloc) | (with_reducible apply below_drewN) | (with_reducible apply Below.drew) | (with_reducible refine below_set ?_ (by dsimp only; omega) _) | (with_reducible refine below_trans ?_ (by assumption)))); done)) | go_keep)
              clear hK K
              try simp only [Act.put, List.setIfInBounds_toArray, List.set_cons_zero, List.set_cons_succ]
              refine wpAnyH_ready (rs := [47]) (by kernel_rfl) (by simp) ?_
              refine AllReadyH.cons (o := { dst := some 145, op := Op.load 2 (Operand.tmp 144), type := 2, pos := "laws.go:414", after := #[{ on := 46, ground := Ground.data }, { on := 45, ground := Ground.guard }], guard := some (45, false) }) rfl (fun K hK => ?_) ?_
              · go_simp
                refine hK.out _ _ ?_ (fun hHeld => ?_)
                · (try dsimp only); (first | (with_reducible exact ⟨n_0, n_1, n_2, n_3, n_4, n_5, n_6, n_7, n_8, n_9, u_1, u_2, u_3, u_4, u_5, u_6, u_7, u_8, u_9, u_10, b_0, b_11, v_1⟩) | (refine ⟨cell_below (show Below W15.heap.size W15 _ from ?_) n_0, cell_below (show Below W15.heap.size W15 _ from ?_) n_1, cell_below (show Below W15.heap.size W15 _ from ?_) n_2, cell_below (show Below W15.heap.size W15 _ from ?_) n_3, cell_below (show Below W15.heap.size W15 _ from ?_) n_4, cell_below (show Below W15.heap.size W15 _ from ?_) n_5, cell_below (show Below W15.heap.size W15 _ from ?_) n_6, cell_below (show Below W15.heap.size W15 _ from ?_) n_7, cell_below (show Below W15.heap.size W15 _ from ?_) n_8, cell_below (show Below W15.heap.size W15 _ from ?_) n_9, cell_below (show Below W15.heap.size W15 _ from ?_) u_1, cell_below (show Below W15.heap.size W15 _ from ?_) u_2, cell_below (show Below W15.heap.size W15 _ from ?_) u_3, cell_below (show Below W15.heap.size W15 _ from ?_) u_4, cell_below (show Below W15.heap.size W15 _ from ?_) u_5, cell_below (show Below W15.heap.size W15 _ from ?_) u_6, cell_below (show Below W15.heap.size W15 _ from ?_) u_7, cell_below (show Below W15.heap.size W15 _ from ?_) u_8, cell_below (show Below W15.heap.size W15 _ from ?_) u_9, cell_below (show Below W15.heap.size W15 _ from ?_) u_10, cell_below (show Below W15.heap.size W15 _ from ?_) b_0, cell_below (show Below W15.heap.size W15 _ from ?_) b_11, cell_below (show Below W15.heap.size W15 _ from ?_) v_1⟩ <;> ((repeat (first | (with_reducible assumption) | (with_reducible exact Below.refl _ _) | (with_reducible apply below_alloc) | (with_reducible apply below_drewN) | (with_reducible apply Below.drew) | (with_reducible refine below_set ?_ (by dsimp only; omega) _) | (with_reducible refine below_trans ?_ (by assumption)))); done)) | go_keep)
                clear hK K
                try simp only [Act.put, List.setIfInBounds_toArray, List.set_cons_zero, List.set_cons_succ]
                refine wpAnyH_ready (rs := [48]) (by kernel_rfl) (by simp) ?_
                refine AllReadyH.cons (o := { dst := some 146, op := Op.binOp BinOp.eql 2 (Operand.tmp 145) (Operand.const (Value.int IntKind.i64 1)) 2, type := 4, pos := "laws.go:414", after := #[{ on := 47, ground := Ground.data }, { on := 45, ground := Ground.guard }], guard := some (45, false) }) rfl (fun K hK => ?_) ?_
                · go_simp
                  refine hK.out _ _ ?_ (fun hHeld => ?_)
                  · (try dsimp only); (first | (with_reducible exact ⟨n_0, n_1, n_2, n_3, n_4, n_5, n_6, n_7, n_8, n_9, u_1, u_2, u_3, u_4, u_5, u_6, u_7, u_8, u_9, u_10, b_0, b_11, v_1⟩) | (refine ⟨cell_below (show Below W15.heap.size W15 _ from ?_) n_0, cell_below (show Below W15.heap.size W15 _ from ?_) n_1, cell_below (show Below W15.heap.size W15 _ from ?_) n_2, cell_below (show Below W15.heap.size W15 _ from ?_) n_3, cell_below (show Below W15.heap.size W15 _ from ?_) n_4, cell_below (show Below W15.heap.size W15 _ from ?_) n_5, cell_below (show Below W15.heap.size W15 _ from ?_) n_6, cell_below (show Below W15.heap.size W15 _ from ?_) n_7, cell_below (show Below W15.heap.size W15 _ from ?_) n_8, cell_below (show Below W15.heap.size W15 _ from ?_) n_9, cell_below (show Below W15.heap.size W15 _ from ?_) u_1, cell_below (show Below W15.heap.size W15 _ from ?_) u_2, cell_below (show Below W15.heap.size W15 _ from ?_) u_3, cell_below (show Below W15.heap.size W15 _ from ?_) u_4, cell_below (show Below W15.heap.size W15 _ from ?_) u_5, cell_below (show Below W15.heap.size W15 _ from ?_) u_6, cell_below (show Below W15.heap.size W15 _ from ?_) u_7, cell_below (show Below W15.heap.size W15 _ from ?_) u_8, cell_below (show Below W15.heap.size W15 _ from ?_) u_9, cell_below (show Below W15.heap.size W15 _ from ?_) u_10, cell_below (show Below W15.heap.size W15 _ from ?_) b_0, cell_below (show Below W15.heap.size W15 _ from ?_) b_11, cell_below (show Below W15.heap.size W15 _ from ?_) v_1⟩ <;> ((repeat (first | (with_reducible assumption) | (with_reducible exact Below.refl _ _) | (with_reducible apply below_alloc) | (with_reducible apply below_drewN) | (with_reducible apply Below.drew) | (with_reducible refine below_set ?_ (by dsimp only; omega) _) | (with_reducible refine below_trans ?_ (by assumption)))); done)) | go_keep)
                  clear hK K
                  try simp only [Act.put, List.setIfInBounds_toArray, List.set_cons_zero, List.set_cons_succ]
                  refine wpAnyH_take (i := 49) (oi := { dst := some 147, op := Op.pick (Operand.tmp 143) (Operand.const (Value.bool true)) (Operand.tmp 146), type := 4, pos := "laws.go:414", after := #[{ on := 45, ground := Ground.data }, { on := 48, ground := Ground.data }, { on := 41, ground := Ground.guard }], guard := some (41, true) }) (v := ?_) rfl (by kernel_rfl) (by kernel_rfl) (by kernel_rfl) (fun _ _ _ h => h) (Or.inl ⟨by rfl, ?hy⟩) (by assumption) ?_
                  case hy => ((intro w hSw; (try dsimp only at hSw); go_simp); (try with_reducible rfl))
                  try simp only [Act.put, List.setIfInBounds_toArray, List.set_cons_zero, List.set_cons_succ]
                  refine wpAnyH_take (i := 50) (oi := { dst := some 148, op := Op.pick (Operand.tmp 139) (Operand.tmp 147) (Operand.const (Value.bool false)), type := 4, pos := "laws.go:414", after := #[{ on := 41, ground := Ground.data }, { on := 49, ground := Ground.data }], guard := none }) (v := ?_) rfl (by kernel_rfl) (by kernel_rfl) (by kernel_rfl) (fun _ _ _ h => h) (Or.inl ⟨by rfl, ?hy⟩) (by assumption) ?_
                  case hy => ((intro w hSw; (try dsimp only at hSw); go_simp); (try with_reducible rfl))
                  try simp only [Act.put, List.setIfInBounds_toArray, List.set_cons_zero, List.set_cons_succ]
                  refine wpAnyH_take (i := 51) (oi := { dst := some 149, op := Op.move (Operand.tmp 148), type := 4, pos := "laws.go:414", after := #[{ on := 50, ground := Ground.data }, { on := 45, ground := Ground.chain }], guard := none }) (v := ?_) rfl (by kernel_rfl) (by kernel_rfl) (by kernel_rfl) (fun _ _ _ h => h) (Or.inl ⟨by rfl, ?hy⟩) (by assumption) ?_
                  case hy => ((intro w hSw; (try dsimp only at hSw); go_simp); (try with_reducible rfl))
                  try simp only [Act.put, List.setIfInBounds_toArray, List.set_cons_zero, List.set_cons_succ]
                  refine wpAnyH_take (i := 52) (oi := { dst := some 150, op := Op.fieldAddr 33 (Operand.tmp 7) 0, type := 0, pos := "laws.go:414", after := #[{ on := 51, ground := Ground.guard }], guard := some (51, true) }) (v := ?_) rfl (by kernel_rfl) (by kernel_rfl) (by kernel_rfl) (fun _ _ _ h => h) (Or.inl ⟨by rfl, ?hy⟩) (by assumption) ?_
                  case hy => ((intro w hSw; (try dsimp only at hSw); go_simp); (try with_reducible rfl))
                  try simp only [Act.put, List.setIfInBounds_toArray, List.set_cons_zero, List.set_cons_succ]
                  refine wpAnyH_take (i := 53) (oi := { dst := some 151, op := Op.load 2 (Operand.tmp 150), type := 2, pos := "laws.go:414", after := #[{ on := 52, ground := Ground.data }, { on := 51, ground := Ground.guard }], guard := some (51, true) }) (v := ?_) rfl (by kernel_rfl) (by kernel_rfl) (by kernel_rfl) (fun _ _ _ h => h) (Or.inl ⟨by rfl, ?hy⟩) (by assumption) ?_
                  case hy => ((intro w hSw; (try dsimp only at hSw); go_simp); (try with_reducible rfl))
                  try simp only [Act.put, List.setIfInBounds_toArray, List.set_cons_zero, List.set_cons_succ]
                  refine wpAnyH_take (i := 54) (oi := { dst := some 152, op := Op.binOp BinOp.eql 2 (Operand.tmp 151) (Operand.const (Value.int IntKind.i64 0)) 2, type := 4, pos := "laws.go:414", after := #[{ on := 53, ground := Ground.data }, { on := 51, ground := Ground.guard }], guard := some (51, true) }) (v := ?_) rfl (by kernel_rfl) (by kernel_rfl) (by kernel_rfl) (fun _ _ _ h => h) (Or.inl ⟨by rfl, ?hy⟩) (by assumption) ?_
                  case hy => ((intro w hSw; (try dsimp only at hSw); go_simp); (try with_reducible rfl))
                  try simp only [Act.put, List.setIfInBounds_toArray, List.set_cons_zero, List.set_cons_succ]
                  refine wpAnyH_take (i := 55) (oi := { dst := some 153, op := Op.pick (Operand.tmp 149) (Operand.tmp 152) (Operand.const (Value.bool false)), type := 4, pos := "laws.go:414", after := #[{ on := 51, ground := Ground.data }, { on := 54, ground := Ground.data }], guard := none }) (v := ?_) rfl (by kernel_rfl) (by kernel_rfl) (by kernel_rfl) (fun _ _ _ h => h) (Or.inl ⟨by rfl, ?hy⟩) (by assumption) ?_
                  case hy => ((intro w hSw; (try dsimp only at hSw); go_simp); (try with_reducible rfl))
                  try simp only [Act.put, List.setIfInBounds_toArray, List.set_cons_zero, List.set_cons_succ]
                  refine wpAnyH_take (i := 56) (oi := { dst := some 154, op := Op.move (Operand.tmp 153), type := 4, pos := "laws.go:414", after := #[{ on := 55, ground := Ground.data }, { on := 51, ground := Ground.chain }], guard := none }) (v := ?_) rfl (by kernel_rfl) (by kernel_rfl) (by kernel_rfl) (fun _ _ _ h => h) (Or.inl ⟨by rfl, ?hy⟩) (by assumption) ?_
                  case hy => ((intro w hSw; (try dsimp only at hSw); go_simp); (try with_reducible rfl))
                  try simp only [Act.put, List.setIfInBounds_toArray, List.set_cons_zero, List.set_cons_succ]
                  refine wpAnyH_take (i := 57) (oi := { dst := some 155, op := Op.fieldAddr 33 (Operand.tmp 7) 2, type := 0, pos := "laws.go:414", after := #[{ on := 56, ground := Ground.guard }], guard := some (56, true) }) (v := ?_) rfl (by kernel_rfl) (by kernel_rfl) (by kernel_rfl) (fun _ _ _ h => h) (Or.inl ⟨by rfl, ?hy⟩) (by assumption) ?_
                  case hy => ((intro w hSw; (try dsimp only at hSw); go_simp); (try with_reducible rfl))
                  try simp only [Act.put, List.setIfInBounds_toArray, List.set_cons_zero, List.set_cons_succ]
                  refine wpAnyH_take (i := 58) (oi := { dst := some 156, op := Op.load 31 (Operand.tmp 155), type := 31, pos := "laws.go:414", after := #[{ on := 57, ground := Ground.data }, { on := 56, ground := Ground.guard }], guard := some (56, true) }) (v := ?_) rfl (by kernel_rfl) (by kernel_rfl) (by kernel_rfl) (fun _ _ _ h => h) (Or.inl ⟨by rfl, ?hy⟩) (by assumption) ?_
                  case hy => ((intro w hSw; (try dsimp only at hSw); go_simp); (try with_reducible rfl))
                  try simp only [Act.put, List.setIfInBounds_toArray, List.set_cons_zero, List.set_cons_succ]
                  refine wpAnyH_take (i := 59) (oi := { dst := some 157, op := Op.call { callee := Callee.builtin Builtin.len, args := #[Operand.tmp 156], argTypes := #[31] }, type := 3, pos := "laws.go:414", after := #[{ on := 58, ground := Ground.data }, { on := 56, ground := Ground.guard }], guard := some (56, true) }) (v := ?_) rfl (by kernel_rfl) (by kernel_rfl) (by kernel_rfl) (fun _ _ _ h => h) (Or.inl ⟨by rfl, ?hy⟩) (by assumption) ?_
                  case hy => ((intro w hSw; (try dsimp only at hSw); go_simp); (try with_reducible rfl))
                  try simp only [Act.put, List.setIfInBounds_toArray, List.set_cons_zero, List.set_cons_succ]
                  refine wpAnyH_take (i := 60) (oi := { dst := some 158, op := Op.load 29 (Operand.tmp 3), type := 29, pos := "laws.go:414", after := #[{ on := 56, ground := Ground.guard }], guard := some (56, true) }) (v := ?_) rfl (by kernel_rfl) (by kernel_rfl) (by kernel_rfl) (fun _ _ _ h => h) (Or.inl ⟨by rfl, ?hy⟩) (by assumption) ?_
                  case hy => ((intro w hSw; (try dsimp only at hSw); go_simp); (try with_reducible rfl))
                  try simp only [Act.put, List.setIfInBounds_toArray, List.set_cons_zero, List.set_cons_succ]
                  refine wpAnyH_ready (rs := [61]) (by kernel_rfl) (by simp) ?_
                  refine AllReadyH.cons (o := { dst := some 159, op := Op.call { callee := Callee.value (Operand.func 16), args := #[Operand.tmp 158], argTypes := #[29] }, type := 33, pos := "laws.go:414", after := #[{ on := 60, ground := Ground.data }, { on := 56, ground := Ground.chain }, { on := 56, ground := Ground.guard }], guard := some (56, true) }) rfl (fun K hK => ?_) ?_
                  · go_simp
                    go_wp2_with (go_at_call 16; refine (HBs.out _ ?_).mono ?_; (focus ((repeat (first | (with_reducible assumption) | (with_reducible exact Below.refl _ _) | (with_reducible apply below_alloc) | (with_reducible apply below_drewN) | (with_reducible apply Below.drew) | (with_reducible refine below_set ?_ (by dsimp only; omega) _) | (with_reducible refine below_trans ?_ (by assumption)))); done)); rintro e wc ⟨D6, D6', D8, D8', D9, D9', D10, D10', D11, D11', _, _, _, _, _, rfl, -, hbc⟩)
                    refine hK.out _ _ ?_ (fun hHeld => ?_)
                    · (try dsimp only); (first | (with_reducible exact ⟨n_0, n_1, n_2, n_3, n_4, n_5, n_6, n_7, n_8, n_9, u_1, u_2, u_3, u_4, u_5, u_6, u_7, u_8, u_9, u_10, b_0, b_11, v_1⟩) | (refine ⟨cell_below (show Below W15.heap.size W15 _ from ?_) n_0, cell_below (show Below W15.heap.size W15 _ from ?_) n_1, cell_below (show Below W15.heap.size W15 _ from ?_) n_2, cell_below (show Below W15.heap.size W15 _ from ?_) n_3, cell_below (show Below W15.heap.size W15 _ from ?_) n_4, cell_below (show Below W15.heap.size W15 _ from ?_) n_5, cell_below (show Below W15.heap.size W15 _ from ?_) n_6, cell_below (show Below W15.heap.size W15 _ from ?_) n_7, cell_below (show Below W15.heap.size W15 _ from ?_) n_8, cell_below (show Below W15.heap.size W15 _ from ?_) n_9, cell_below (show Below W15.heap.size W15 _ from ?_) u_1, cell_below (show Below W15.heap.size W15 _ from ?_) u_2, cell_below (show Below W15.heap.size W15 _ from ?_) u_3, cell_below (show Below W15.heap.size W15 _ from ?_) u_4, cell_below (show Below W15.heap.size W15 _ from ?_) u_5, cell_below (show Below W15.heap.size W15 _ from ?_) u_6, cell_below (show Below W15.heap.size W15 _ from ?_) u_7, cell_below (show Below W15.heap.size W15 _ from ?_) u_8, cell_below (show Below W15.heap.size W15 _ from ?_) u_9, cell_below (show Below W15.heap.size W15 _ from ?_) u_10, cell_below (show Below W15.heap.size W15 _ from ?_) b_0, cell_below (show Below W15.heap.size W15 _ from ?_) b_11, cell_below (show Below W15.heap.size W15 _ from ?_) v_1⟩ <;> ((repeat (first | (with_reducible assumption) | (with_reducible exact Below.refl _ _) | (with_reducible apply below_alloc) | (with_reducible apply below_drewN) | (with_reducible apply Below.drew) | (with_reducible refine below_set ?_ (by dsimp only; omega) _) | (with_reducible refine below_trans ?_ (by assumption)))); done)) | go_keep)
                    clear hK K
                    try simp only [Act.put, List.setIfInBounds_toArray, List.set_cons_zero, List.set_cons_succ]
                    refine wpAnyH_take (i := 62) (oi := { dst := some 160, op := Op.field 33 (Operand.tmp 159) 2, type := 31, pos := "laws.go:414", after := #[{ on := 61, ground := Ground.data }, { on := 56, ground := Ground.guard }], guard := some (56, true) }) (v := ?_) rfl (by kernel_rfl) (by kernel_rfl) (by kernel_rfl) (fun _ _ _ h => h) (Or.inl ⟨by rfl, ?hy⟩) (by assumption) ?_
                    case hy => ((intro w hSw; (try dsimp only at hSw); go_simp); (try with_reducible rfl))
                    try simp only [Act.put, List.setIfInBounds_toArray, List.set_cons_zero, List.set_cons_succ]
                    refine wpAnyH_take (i := 63) (oi := { dst := some 161, op := Op.call { callee := Callee.builtin Builtin.len, args := #[Operand.tmp 160], argTypes := #[31] }, type := 3, pos := "laws.go:414", after := #[{ on := 62, ground := Ground.data }, { on := 56, ground := Ground.guard }], guard := some (56, true) }) (v := ?_) rfl (by kernel_rfl) (by kernel_rfl) (by kernel_rfl) (fun _ _ _ h => h) (Or.inl ⟨by rfl, ?hy⟩) (by assumption) ?_
                    case hy => ((intro w hSw; (try dsimp only at hSw); go_simp); (try with_reducible rfl))
                    try simp only [Act.put, List.setIfInBounds_toArray, List.set_cons_zero, List.set_cons_succ]
                    refine wpAnyH_take (i := 64) (oi := { dst := some 162, op := Op.binOp BinOp.eql 3 (Operand.tmp 157) (Operand.tmp 161) 3, type := 4, pos := "laws.go:414", after := #[{ on := 59, ground := Ground.data }, { on := 63, ground := Ground.data }, { on := 56, ground := Ground.guard }], guard := some (56, true) }) (v := ?_) rfl (by kernel_rfl) (by kernel_rfl) (by kernel_rfl) (fun _ _ _ h => h) (Or.inl ⟨by rfl, ?hy⟩) (by assumption) ?_
                    case hy => ((intro w hSw; (try dsimp only at hSw); go_simp); (try with_reducible rfl))
                    try simp only [Act.put, List.setIfInBounds_toArray, List.set_cons_zero, List.set_cons_succ]
                    refine wpAnyH_take (i := 65) (oi := { dst := some 163, op := Op.pick (Operand.tmp 154) (Operand.tmp 162) (Operand.const (Value.bool false)), type := 4, pos := "laws.go:414", after := #[{ on := 56, ground := Ground.data }, { on := 64, ground := Ground.data }], guard := none }) (v := ?_) rfl (by kernel_rfl) (by kernel_rfl) (by kernel_rfl) (fun _ _ _ h => h) (Or.inl ⟨by rfl, ?hy⟩) (by assumption) ?_
                    case hy => ((intro w hSw; (try dsimp only at hSw); go_simp); (try with_reducible rfl))
                    try simp only [Act.put, List.setIfInBounds_toArray, List.set_cons_zero, List.set_cons_succ]
                    refine wpAnyH_take (i := 66) (oi := { dst := some 2, op := Op.assign (Operand.tmp 163), type := 4, pos := "laws.go:414", after := ([{ on := 65, ground := Ground.data }, { on := 61, ground := Ground.chain }, { on := 0, ground := Ground.phase }, { on := 1, ground := Ground.phase }, { on := 2, ground := Ground.phase }, { on := 3, ground := Ground.phase }, { on := 4, ground := Ground.phase }, { on := 5, ground := Ground.phase }, { on := 6, ground := Ground.phase }, { on := 7, ground := Ground.phase }, { on := 8, ground := Ground.phase }, { on := 9, ground := Ground.phase }, { on := 10, ground := Ground.phase }, { on := 11, ground := Ground.phase }, { on := 12, ground := Ground.phase }, { on := 13, ground := Ground.phase }, { on := 14, ground := Ground.phase }, { on := 15, ground := Ground.phase }, { on := 16, ground := Ground.phase }, { on := 17, ground := Ground.phase }, { on := 18, ground := Ground.phase }, { on := 19, ground := Ground.phase }, { on := 20, ground := Ground.phase }, { on := 21, ground := Ground.phase }, { on := 22, ground := Ground.phase }, { on := 23, ground := Ground.phase }, { on := 24, ground := Ground.phase }, { on := 25, ground := Ground.phase }, { on := 26, ground := Ground.phase }, { on := 27, ground := Ground.phase }, { on := 28, ground := Ground.phase }, { on := 29, ground := Ground.phase }, { on := 30, ground := Ground.phase }, { on := 31, ground := Ground.phase }].append [{ on := 32, ground := Ground.phase }, { on := 33, ground := Ground.phase }, { on := 34, ground := Ground.phase }, { on := 35, ground := Ground.phase }, { on := 36, ground := Ground.phase }, { on := 37, ground := Ground.phase }, { on := 38, ground := Ground.phase }, { on := 39, ground := Ground.phase }, { on := 40, ground := Ground.phase }, { on := 41, ground := Ground.phase }, { on := 42, ground := Ground.phase }, { on := 43, ground := Ground.phase }, { on := 44, ground := Ground.phase }, { on := 45, ground := Ground.phase }, { on := 46, ground := Ground.phase }, { on := 47, ground := Ground.phase }, { on := 48, ground := Ground.phase }, { on := 49, ground := Ground.phase }, { on := 50, ground := Ground.phase }, { on := 51, ground := Ground.phase }, { on := 52, ground := Ground.phase }, { on := 53, ground := Ground.phase }, { on := 54, ground := Ground.phase }, { on := 55, ground := Ground.phase }, { on := 56, ground := Ground.phase }, { on := 57, ground := Ground.phase }, { on := 58, ground := Ground.phase }, { on := 59, ground := Ground.phase }, { on := 60, ground := Ground.phase }, { on := 61, ground := Ground.phase }, { on := 62, ground := Ground.phase }, { on := 63, ground := Ground.phase }, { on := 64, ground := Ground.phase }, { on := 65, ground := Ground.phase }]).toArray, guard := none }) (v := ?_) rfl (by kernel_rfl) (by kernel_rfl) (by kernel_rfl) (fun _ _ _ h => h) (Or.inl ⟨by rfl, ?hy⟩) (by assumption) ?_
                    case hy => ((intro w hSw; (try dsimp only at hSw); go_simp); (try with_reducible rfl))
                    try simp only [Act.put, List.setIfInBounds_toArray, List.set_cons_zero, List.set_cons_succ]
                    refine wpAnyH_done (by kernel_rfl) ?_ _
                    refine NoPanic.normal ?_
                    (go_wp2_with fail)
                    (go_ret)
                    exact ⟨rfl, by repeat (first | (with_reducible assumption) | (with_reducible exact Below.refl _ _) | (with_reducible apply below_alloc) | (with_reducible apply below_drewN) | (with_reducible apply Below.drew) | (with_reducible refine below_set ?_ (by dsimp only; omega) _) | (with_reducible refine below_trans ?_ (by assumption)))⟩
                  exact AllReadyH.nil
                exact AllReadyH.nil
              exact AllReadyH.nil
            exact AllReadyH.nil
          exact AllReadyH.nil
        exact AllReadyH.nil
      | false =>
        rw [hs1] at hkv u_4 HFt HCs
        have hk1 : kv = 1 := by simpa using hkv
        have h1 : ¬ n.Size = 1 := by simpa using hs1
        subst hk1
        simp only [List.append_eq, List.cons_append, List.nil_append]
        go_region_held3 (fun V => V.cell? ⟨bn, 0, none⟩ = some (.int .i64 n.Id) ∧ V.cell? ⟨bn, 1, none⟩ = some (.int .i64 n.Size) ∧ V.cell? ⟨bn, 2, none⟩ = some (.int .i64 n.View) ∧ V.cell? ⟨bn, 3, none⟩ = some (.bool n.Normal) ∧ V.cell? ⟨bn, 4, none⟩ = some (.int .i64 n.Last) ∧ V.cell? ⟨bn, 5, none⟩ = some (.slice A5 n.Log.length c5) ∧ V.cell? ⟨bn, 6, none⟩ = some (.int .i64 n.Commit) ∧ V.cell? ⟨bn, 7, none⟩ = some (.slice A7 n.Oks.length c7) ∧ V.cell? ⟨bn, 8, none⟩ = some (.slice A8 n.Asks.length c8) ∧ V.cell? ⟨bn, 9, none⟩ = some (.slice A9 n.Doers.length c9) ∧ V.cell? ⟨bt, 1, none⟩ = some (.int .i64 T.Replica.Id) ∧ V.cell? ⟨bt, 2, none⟩ = some (.int .i64 T.Replica.Size) ∧ V.cell? ⟨bt, 3, none⟩ = some (.int .i64 (n.View + 1)) ∧ V.cell? ⟨bt, 4, none⟩ = some (.bool false) ∧ V.cell? ⟨bt, 5, none⟩ = some (.int .i64 T.Replica.Last) ∧ V.cell? ⟨bt, 6, none⟩ = some (.slice T6 n.Log.length T6') ∧ V.cell? ⟨bt, 7, none⟩ = some (.int .i64 T.Replica.Commit) ∧ V.cell? ⟨bt, 8, none⟩ = some (.slice T8 T.Replica.Oks.length T8') ∧ V.cell? ⟨bt, 9, none⟩ = some (.slice T9 T.Replica.Asks.length T9') ∧ V.cell? ⟨bt, 10, none⟩ = some (.slice T10 T.Replica.Doers.length T10') ∧ V.cell? ⟨w11.heap.size, 0, none⟩ = some (.int .i64 0) ∧ V.cell? ⟨w11.heap.size, 11, none⟩ = some (.slice B11 Bx.Send.length B11') ∧ V.cell? ⟨w13.heap.size, 1, none⟩ = some (.int .i64 1)) (first | (with_reducible exact ⟨n_0, n_1, n_2, n_3, n_4, n_5, n_6, n_7, n_8, n_9, u_1, u_2, u_3, u_4, u_5, u_6, u_7, u_8, u_9, u_10, b_0, b_11, v_1⟩) | (refine ⟨cell_below (show Below W15.heap.size W15 _ from ?_) n_0, cell_below (show Below W15.heap.size W15 _ from ?_) n_1, cell_below (show Below W15.heap.size W15 _ from ?_) n_2, cell_below (show Below W15.heap.size W15 _ from ?_) n_3, cell_below (show Below W15.heap.size W15 _ from ?_) n_4, cell_below (show Below W15.heap.size W15 _ from ?_) n_5, cell_below (show Below W15.heap.size W15 _ from ?_) n_6, cell_below (show Below W15.heap.size W15 _ from ?_) n_7, cell_below (show Below W15.heap.size W15 _ from ?_) n_8, cell_below (show Below W15.heap.size W15 _ from ?_) n_9, cell_below (show Below W15.heap.size W15 _ from ?_) u_1, cell_below (show Below W15.heap.size W15 _ from ?_) u_2, cell_below (show Below W15.heap.size W15 _ from ?_) u_3, cell_below (show Below W15.heap.size W15 _ from ?_) u_4, cell_below (show Below W15.heap.size W15 _ from ?_) u_5, cell_below (show Below W15.heap.size W15 _ from ?_) u_6, cell_below (show Below W15.heap.size W15 _ from ?_) u_7, cell_below (show Below W15.heap.size W15 _ from ?_) u_8, cell_below (show Below W15.heap.size W15 _ from ?_) u_9, cell_below (show Below W15.heap.size W15 _ from ?_) u_10, cell_below (show Below W15.heap.size W15 _ from ?_) b_0, cell_below (show Below W15.heap.size W15 _ from ?_) b_11, cell_below (show Below W15.heap.size W15 _ from ?_) v_1⟩ <;> ((repeat (first | (with_reducible assumption) | (with_reducible exact Below.refl _ _) | (with_reducible apply below_alloc) | (with_reducible apply below_drewN) | (with_reducible apply Below.drew) | (with_reducible refine below_set ?_ (by dsimp only; omega) _) | (with_reducible refine below_trans ?_ (by assumption)))); done)) | go_keep) (first | (go_at_call 11; refine (HFt.out _ ?_).mono ?_; (focus ((repeat (first | (with_reducible assumption) | (with_reducible exact Below.refl _ _) | (with_reducible apply below_alloc) | (with_reducible apply below_drewN) | (with_reducible apply Below.drew) | (with_reducible refine below_set ?_ (by dsimp only; omega) _) | (with_reducible refine below_trans ?_ (by assumption)))); done)); rintro e wc ⟨rfl, hbc⟩) | (go_at_call 15; refine (HCs.out _ ?_).mono ?_; (focus ((repeat (first | (with_reducible assumption) | (with_reducible exact Below.refl _ _) | (with_reducible apply below_alloc) | (with_reducible apply below_drewN) | (with_reducible apply Below.drew) | (with_reducible refine below_set ?_ (by dsimp only; omega) _) | (with_reducible refine below_trans ?_ (by assumption)))); done)); rintro e wc ⟨rfl, hbc⟩) | (go_at_call 16; refine (HBs.out _ ?_).mono ?_; (focus ((repeat (first | (with_reducible assumption) | (with_reducible exact Below.refl _ _) | (with_reducible apply below_alloc) | (with_reducible apply below_drewN) | (with_reducible apply Below.drew) | (with_reducible refine below_set ?_ (by dsimp only; omega) _) | (with_reducible refine below_trans ?_ (by assumption)))); done)); rintro e wc ⟨D6, D6', D8, D8', D9, D9', D10, D10', D11, D11', _, _, _, _, _, rfl, -, hbc⟩))
        all_goals (go_wp2_with fail)
        all_goals (go_ret)
        all_goals (exact ⟨rfl, by repeat (first | (with_reducible assumption) | (with_reducible exact Below.refl _ _) | (with_reducible apply below_alloc) | (with_reducible apply below_drewN) | (with_reducible apply Below.drew) | (with_reducible refine below_set ?_ (by dsimp only; omega) _) | (with_reducible refine below_trans ?_ (by assumption)))⟩)
end Go.Proofs.YtdjfehjddfbbjaaGreat
