/- The law FnExactTimeoutReplica, walked (written by gH12.py, own work). -/
import Derived.Test.YtfffbjeaebmhbaaH13
import Derived.Test.YtfffbjeaebmhbaaH11
set_option linter.unusedVariables false
set_option linter.unusedSimpArgs false
namespace Go.Proofs.Ytfffbjeaebmhbaa
open Go Go.RowKit Mk
theorem OwnS.bel {α : Type} {d : Kd α} {e : TypeId} {B : Nat} {w w' : World} {fp : List Nat} {v : Value} {xs : List α} (h : OwnS d e B w fp v xs) (hb : Below w.heap.size w w') : OwnS d e B w' fp v xs := OwnS.keep h (fun b hm => hb.block b (h.in b hm).2)
set_option maxRecDepth 100000 in
set_option maxHeartbeats 8000000 in
theorem law_TimeoutReplica (n : SReplica) (A5 : Option Addr) (c5 : Nat) (A7 : Option Addr) (c7 : Nat) (A8 : Option Addr) (c8 : Nat) (A9 : Option Addr) (c9 : Nat) (w : World) (h5 : RdS kEntry w A5 c5 n.Log) (h7 : RdS kInt w A7 c7 n.Oks) (h8 : RdS kBool w A8 c8 n.Asks) (h9 : RdS kDoer w A9 c9 n.Doers) :
    Calls Try.prog 13 #[.agg #[.int .i64 n.Id, .int .i64 n.Size, .int .i64 n.View, .bool n.Normal, .int .i64 n.Last, .slice A5 n.Log.length c5, .int .i64 n.Commit, .slice A7 n.Oks.length c7, .slice A8 n.Asks.length c8, .slice A9 n.Doers.length c9]] w fun e w' => e = .returned (.bool true) ∧ Below w.heap.size w w' := by
  have HS := Lib.hid (sTimeoutReplica_c n)
  have HI := Lib.hid (iTimeoutReplica_c n)
  obtain ⟨hsm, hsn⟩ := timeoutX_small n
  generalize timeoutX n = X at HS HI hsm hsn
  have cX := ctRep_small hsm
  have cM := ctMails_small hsn
  clear hsm hsn
  go_enter Try.func13, Try.ntmps13
  go_wp2_with fail
  refine (szReplica_c n _ _ _ _ _ _ _ _ _ _ (h5.below (by repeat (first | (with_reducible assumption) | (with_reducible exact Below.refl _ _) | (with_reducible apply below_alloc) | (with_reducible apply below_drewN) | (with_reducible apply Below.drew) | (with_reducible refine below_set ?_ (by dsimp only; omega) _) | (with_reducible refine below_trans ?_ (by assumption))))) (h7.below (by repeat (first | (with_reducible assumption) | (with_reducible exact Below.refl _ _) | (with_reducible apply below_alloc) | (with_reducible apply below_drewN) | (with_reducible apply Below.drew) | (with_reducible refine below_set ?_ (by dsimp only; omega) _) | (with_reducible refine below_trans ?_ (by assumption))))) (h8.below (by repeat (first | (with_reducible assumption) | (with_reducible exact Below.refl _ _) | (with_reducible apply below_alloc) | (with_reducible apply below_drewN) | (with_reducible apply Below.drew) | (with_reducible refine below_set ?_ (by dsimp only; omega) _) | (with_reducible refine below_trans ?_ (by assumption))))) (h9.below (by repeat (first | (with_reducible assumption) | (with_reducible exact Below.refl _ _) | (with_reducible apply below_alloc) | (with_reducible apply below_drewN) | (with_reducible apply Below.drew) | (with_reducible refine below_set ?_ (by dsimp only; omega) _) | (with_reducible refine below_trans ?_ (by assumption))))) (by omega) (by omega)).mono ?_
  rintro e w1 ⟨⟨r, rfl, hr⟩, hb1⟩
  have bw1 : Below w.heap.size w w1 := by repeat (first | (with_reducible assumption) | (with_reducible exact Below.refl _ _) | (with_reducible apply below_alloc) | (with_reducible apply below_drewN) | (with_reducible apply Below.drew) | (with_reducible refine below_set ?_ (by dsimp only; omega) _) | (with_reducible refine below_trans ?_ (by assumption)))
  have x1 : Blk w1 w.heap.size 55 [.int .i64 n.Id, .int .i64 n.Size, .int .i64 n.View, .bool n.Normal, .int .i64 n.Last, .slice A5 n.Log.length c5, .int .i64 n.Commit, .slice A7 n.Oks.length c7, .slice A8 n.Asks.length c8, .slice A9 n.Doers.length c9] := (blk_alloc w [.int .i64 n.Id, .int .i64 n.Size, .int .i64 n.View, .bool n.Normal, .int .i64 n.Last, .slice A5 n.Log.length c5, .int .i64 n.Commit, .slice A7 n.Oks.length c7, .slice A8 n.Asks.length c8, .slice A9 n.Doers.length c9] 55).below hb1
  by_cases hr0 : r < 0
  · have hd : decide (r < 0) = true := decide_eq_true hr0
    go_wp2_with fail
    go_ret
    exact ⟨rfl, bw1⟩
  have hd : decide (r < 0) = false := decide_eq_false hr0
  have ht : totReplica n ≤ 1048576 := by unfold Left at hr; omega
  have cN := ctRep_small (totRep_small ht)
  clear hr0 hr
  have e_0 := x1.cell (j := 0) rfl
  have e_1 := x1.cell (j := 1) rfl
  have e_2 := x1.cell (j := 2) rfl
  have e_3 := x1.cell (j := 3) rfl
  have e_4 := x1.cell (j := 4) rfl
  have e_5 := x1.cell (j := 5) rfl
  have e_6 := x1.cell (j := 6) rfl
  have e_7 := x1.cell (j := 7) rfl
  have e_8 := x1.cell (j := 8) rfl
  have e_9 := x1.cell (j := 9) rfl
  go_wp2_with fail
  clear e_0 e_1 e_2 e_3 e_4 e_5 e_6 e_7 e_8 e_9 hd
  -- what the reference is asked, and answers
  refine (toReplica_c n A5 c5 A7 c7 A8 c8 A9 c9 w1 (h5.below bw1) (h7.below bw1) (h8.below bw1) (h9.below bw1) ht).mono ?_
  rintro e w2 ⟨G5, G7, G8, G9, rfl, ⟨fp, nd, ow⟩, hb2⟩
  obtain ⟨f5, f7, f8, f9, rfl, hP⟩ := ownReplica_parts ow nd
  clear ow nd
  go_wp2_with fail
  refine (HS.out _ _ _ _ _ _ _ _ w2 (ownS_rds hP.1).1 (ownS_rds hP.2.1).1 (ownS_rds hP.2.2.1).1 (ownS_rds hP.2.2.2.1).1).mono ?_
  rintro e w3 ⟨S6, s6, S8, s8, S9, s9, S10, s10, S11, s11, u6, u8, u9, u10, u11, rfl, hS, hb3⟩
  have r6 := (ownS_rds hS.1).1
  have r8 := (ownS_rds hS.2.1).1
  have r9 := (ownS_rds hS.2.2.1).1
  have r10 := (ownS_rds hS.2.2.2.1).1
  have r11 := (ownS_rds hS.2.2.2.2.1).1
  clear hP hS f5 f7 f8 f9 u6 u8 u9 u10 u11
  have bw3 : Below w.heap.size w w3 := below_trans bw1 (below_trans hb2 hb3)
  have x3 := x1.below (below_trans hb2 hb3)
  have xl := x3.lt
  clear hb1 hb2 hb3 x1 bw1
  have e_0 := x3.cell (j := 0) rfl
  have e_1 := x3.cell (j := 1) rfl
  have e_2 := x3.cell (j := 2) rfl
  have e_3 := x3.cell (j := 3) rfl
  have e_4 := x3.cell (j := 4) rfl
  have e_5 := x3.cell (j := 5) rfl
  have e_6 := x3.cell (j := 6) rfl
  have e_7 := x3.cell (j := 7) rfl
  have e_8 := x3.cell (j := 8) rfl
  have e_9 := x3.cell (j := 9) rfl
  go_upto_region 6 with fail
  clear e_0 e_1 e_2 e_3 e_4 e_5 e_6 e_7 e_8 e_9
  refine at_world (fun W => Blk W w3.heap.size 61 [.int .i64 X.Code, .int .i64 X.Replica.Id, .int .i64 X.Replica.Size, .int .i64 X.Replica.View, .bool X.Replica.Normal, .int .i64 X.Replica.Last, .slice S6 X.Replica.Log.length s6, .int .i64 X.Replica.Commit, .slice S8 X.Replica.Oks.length s8, .slice S9 X.Replica.Asks.length s9, .slice S10 X.Replica.Doers.length s10, .slice S11 X.Send.length s11] ∧ Below w3.heap.size w3 W ∧ w3.heap.size < W.heap.size) ⟨blk_alloc w3 [.int .i64 X.Code, .int .i64 X.Replica.Id, .int .i64 X.Replica.Size, .int .i64 X.Replica.View, .bool X.Replica.Normal, .int .i64 X.Replica.Last, .slice S6 X.Replica.Log.length s6, .int .i64 X.Replica.Commit, .slice S8 X.Replica.Oks.length s8, .slice S9 X.Replica.Asks.length s9, .slice S10 X.Replica.Doers.length s10, .slice S11 X.Send.length s11] _, below_alloc (Below.refl _ _) _, by rw [Deep.nblk_alloc]; omega⟩ ?_
  rintro W4 ⟨z4, b4, l4⟩
  have x4 := x3.below b4
  have e_0 := x4.cell (j := 0) rfl
  have e_1 := x4.cell (j := 1) rfl
  have e_2 := x4.cell (j := 2) rfl
  have e_3 := x4.cell (j := 3) rfl
  have e_4 := x4.cell (j := 4) rfl
  have e_5 := x4.cell (j := 5) rfl
  have e_6 := x4.cell (j := 6) rfl
  have e_7 := x4.cell (j := 7) rfl
  have e_8 := x4.cell (j := 8) rfl
  have e_9 := x4.cell (j := 9) rfl
  go_wp2_with fail
  clear e_0 e_1 e_2 e_3 e_4 e_5 e_6 e_7 e_8 e_9
  -- the argument of the program
  refine (toReplica_c n A5 c5 A7 c7 A8 c8 A9 c9 W4 (h5.below (below_trans bw3 b4)) (h7.below (below_trans bw3 b4)) (h8.below (below_trans bw3 b4)) (h9.below (below_trans bw3 b4)) ht).mono ?_
  rintro e w5 ⟨G5, G7, G8, G9, rfl, ⟨fp, nd, ow⟩, hb5⟩
  obtain ⟨f5, f7, f8, f9, rfl, hP⟩ := ownReplica_parts ow nd
  clear ow nd
  have k5 := hP.1.in
  have k7 := hP.2.1.in
  have k8 := hP.2.2.1.in
  have k9 := hP.2.2.2.1.in
  have ndP := hP.2.2.2.2
  go_upto_region 7 with fail
  refine at_world (fun W => Blk W w5.heap.size 59 [.int .i64 n.Id, .int .i64 n.Size, .int .i64 n.View, .bool n.Normal, .int .i64 n.Last, .slice (some ⟨G5, 0, none⟩) n.Log.length n.Log.length, .int .i64 n.Commit, .slice (some ⟨G7, 0, none⟩) n.Oks.length n.Oks.length, .slice (some ⟨G8, 0, none⟩) n.Asks.length n.Asks.length, .slice (some ⟨G9, 0, none⟩) n.Doers.length n.Doers.length] ∧ Below w5.heap.size w5 W ∧ w5.heap.size < W.heap.size) ⟨blk_alloc w5 [.int .i64 n.Id, .int .i64 n.Size, .int .i64 n.View, .bool n.Normal, .int .i64 n.Last, .slice (some ⟨G5, 0, none⟩) n.Log.length n.Log.length, .int .i64 n.Commit, .slice (some ⟨G7, 0, none⟩) n.Oks.length n.Oks.length, .slice (some ⟨G8, 0, none⟩) n.Asks.length n.Asks.length, .slice (some ⟨G9, 0, none⟩) n.Doers.length n.Doers.length] _, below_alloc (Below.refl _ _) _, by rw [Deep.nblk_alloc]; omega⟩ ?_
  rintro W6 ⟨y6, b6, l6⟩
  have b46 := below_trans hb5 b6
  have l5 := hb5.size
  have p6 : HasReplica W4.heap.size W6 n (some ⟨G5, 0, none⟩) n.Log.length (some ⟨G7, 0, none⟩) n.Oks.length (some ⟨G8, 0, none⟩) n.Asks.length (some ⟨G9, 0, none⟩) n.Doers.length f5 f7 f8 f9 :=
    ⟨OwnS.keep hP.1 (fun b hb => b6.block b (k5 b hb).2), OwnS.keep hP.2.1 (fun b hb => b6.block b (k7 b hb).2), OwnS.keep hP.2.2.1 (fun b hb => b6.block b (k8 b hb).2), OwnS.keep hP.2.2.2.1 (fun b hb => b6.block b (k9 b hb).2), ndP⟩
  clear hP
  have x6 := x4.below b46
  have z6 := z4.below b46
  have y_0 := y6.cell (j := 0) rfl
  have y_1 := y6.cell (j := 1) rfl
  have y_2 := y6.cell (j := 2) rfl
  have y_3 := y6.cell (j := 3) rfl
  have y_4 := y6.cell (j := 4) rfl
  have y_5 := y6.cell (j := 5) rfl
  have y_6 := y6.cell (j := 6) rfl
  have y_7 := y6.cell (j := 7) rfl
  have y_8 := y6.cell (j := 8) rfl
  have y_9 := y6.cell (j := 9) rfl
  go_wp2_with fail
  clear y_0 y_1 y_2 y_3 y_4 y_5 y_6 y_7 y_8 y_9
  -- what the program answers
  refine (HI.out _ _ _ _ _ _ _ _ W6 (ownS_rds p6.1).1 (ownS_rds p6.2.1).1 (ownS_rds p6.2.2.1).1 (ownS_rds p6.2.2.2.1).1).mono ?_
  rintro e w7 ⟨P6, a6, P8, a8, P9, a9, P10, a10, P11, a11, g6, g8, g9, g10, g11, rfl, hG, hb7⟩
  obtain ⟨G1, G2, G3, G4, GM, ndG⟩ := hG
  have j6 := G1.in
  have j8 := G2.in
  have j9 := G3.in
  have j10 := G4.in
  have j11 := GM.in
  have p7 : HasReplica W4.heap.size w7 n (some ⟨G5, 0, none⟩) n.Log.length (some ⟨G7, 0, none⟩) n.Oks.length (some ⟨G8, 0, none⟩) n.Asks.length (some ⟨G9, 0, none⟩) n.Doers.length f5 f7 f8 f9 :=
    ⟨OwnS.keep p6.1 (fun b hb => hb7.block b (p6.1.in b hb).2), OwnS.keep p6.2.1 (fun b hb => hb7.block b (p6.2.1.in b hb).2), OwnS.keep p6.2.2.1 (fun b hb => hb7.block b (p6.2.2.1.in b hb).2), OwnS.keep p6.2.2.2.1 (fun b hb => hb7.block b (p6.2.2.2.1.in b hb).2), ndP⟩
  clear p6
  go_upto_region 8 with fail
  refine at_world (fun W => Blk W w7.heap.size 61 [.int .i64 X.Code, .int .i64 X.Replica.Id, .int .i64 X.Replica.Size, .int .i64 X.Replica.View, .bool X.Replica.Normal, .int .i64 X.Replica.Last, .slice P6 X.Replica.Log.length a6, .int .i64 X.Replica.Commit, .slice P8 X.Replica.Oks.length a8, .slice P9 X.Replica.Asks.length a9, .slice P10 X.Replica.Doers.length a10, .slice P11 X.Send.length a11] ∧ Below w7.heap.size w7 W ∧ w7.heap.size < W.heap.size) ⟨blk_alloc w7 [.int .i64 X.Code, .int .i64 X.Replica.Id, .int .i64 X.Replica.Size, .int .i64 X.Replica.View, .bool X.Replica.Normal, .int .i64 X.Replica.Last, .slice P6 X.Replica.Log.length a6, .int .i64 X.Replica.Commit, .slice P8 X.Replica.Oks.length a8, .slice P9 X.Replica.Asks.length a9, .slice P10 X.Replica.Doers.length a10, .slice P11 X.Send.length a11] _, below_alloc (Below.refl _ _) _, by rw [Deep.nblk_alloc]; omega⟩ ?_
  rintro W8 ⟨q8, b8, l8⟩
  have l7 := hb7.size
  have b68 := below_trans hb7 b8
  have b48 := below_trans b46 b68
  have b38 := below_trans b4 b48
  have x8 := x6.below b68
  have y8 := y6.below b68
  have z8 := z6.below b68
  replace G1 := OwnS.keep G1 (fun b hb => b8.block b (j6 b hb).2)
  replace G2 := OwnS.keep G2 (fun b hb => b8.block b (j8 b hb).2)
  replace G3 := OwnS.keep G3 (fun b hb => b8.block b (j9 b hb).2)
  replace G4 := OwnS.keep G4 (fun b hb => b8.block b (j10 b hb).2)
  replace GM := OwnS.keep GM (fun b hb => b8.block b (j11 b hb).2)
  have p8 : HasReplica W4.heap.size W8 n (some ⟨G5, 0, none⟩) n.Log.length (some ⟨G7, 0, none⟩) n.Oks.length (some ⟨G8, 0, none⟩) n.Asks.length (some ⟨G9, 0, none⟩) n.Doers.length f5 f7 f8 f9 :=
    ⟨OwnS.keep p7.1 (fun b hb => b8.block b (p7.1.in b hb).2), OwnS.keep p7.2.1 (fun b hb => b8.block b (p7.2.1.in b hb).2), OwnS.keep p7.2.2.1 (fun b hb => b8.block b (p7.2.2.1.in b hb).2), OwnS.keep p7.2.2.2.1 (fun b hb => b8.block b (p7.2.2.2.1.in b hb).2), ndP⟩
  clear p7 x6 y6 z6 x4 z4 x3
  have q_0 := q8.cell (j := 0) rfl
  have q_1 := q8.cell (j := 1) rfl
  have q_2 := q8.cell (j := 2) rfl
  have q_3 := q8.cell (j := 3) rfl
  have q_4 := q8.cell (j := 4) rfl
  have q_5 := q8.cell (j := 5) rfl
  have q_6 := q8.cell (j := 6) rfl
  have q_7 := q8.cell (j := 7) rfl
  have q_8 := q8.cell (j := 8) rfl
  have q_9 := q8.cell (j := 9) rfl
  have q_10 := q8.cell (j := 10) rfl
  have q_11 := q8.cell (j := 11) rfl
  have z_0 := z8.cell (j := 0) rfl
  have z_1 := z8.cell (j := 1) rfl
  have z_2 := z8.cell (j := 2) rfl
  have z_3 := z8.cell (j := 3) rfl
  have z_4 := z8.cell (j := 4) rfl
  have z_5 := z8.cell (j := 5) rfl
  have z_6 := z8.cell (j := 6) rfl
  have z_7 := z8.cell (j := 7) rfl
  have z_8 := z8.cell (j := 8) rfl
  have z_9 := z8.cell (j := 9) rfl
  have z_10 := z8.cell (j := 10) rfl
  have z_11 := z8.cell (j := 11) rfl
  go_wp2_with fail
  clear q_0 q_1 q_2 q_3 q_4 q_5 q_6 q_7 q_8 q_9 q_10 q_11 z_0 z_1 z_2 z_3 z_4 z_5 z_6 z_7 z_8 z_9 z_10 z_11
  refine (eqReplicaResult_c X P6 a6 P8 a8 P9 a9 P10 a10 P11 a11 S6 s6 S8 s8 S9 s9 S10 s10 S11 s11 W8 (ownS_rds G1).1 (ownS_rds G2).1 (ownS_rds G3).1 (ownS_rds G4).1 (ownS_rds GM).1 (r6.below b38) (r8.below b38) (r9.below b38) (r10.below b38) (r11.below b38)).mono ?_
  rintro e w9 ⟨rfl, hb9⟩
  have x9 := x8.below hb9
  have y9 := y8.below hb9
  have bw9 : Below w.heap.size w w9 := below_trans (below_trans bw3 b38) hb9
  have xl9 := x9.lt
  have yl9 := y9.lt
  have e_0 := x9.cell (j := 0) rfl
  have e_1 := x9.cell (j := 1) rfl
  have e_2 := x9.cell (j := 2) rfl
  have e_3 := x9.cell (j := 3) rfl
  have e_4 := x9.cell (j := 4) rfl
  have e_5 := x9.cell (j := 5) rfl
  have e_6 := x9.cell (j := 6) rfl
  have e_7 := x9.cell (j := 7) rfl
  have e_8 := x9.cell (j := 8) rfl
  have e_9 := x9.cell (j := 9) rfl
  have y_0 := y9.cell (j := 0) rfl
  have y_1 := y9.cell (j := 1) rfl
  have y_2 := y9.cell (j := 2) rfl
  have y_3 := y9.cell (j := 3) rfl
  have y_4 := y9.cell (j := 4) rfl
  have y_5 := y9.cell (j := 5) rfl
  have y_6 := y9.cell (j := 6) rfl
  have y_7 := y9.cell (j := 7) rfl
  have y_8 := y9.cell (j := 8) rfl
  have y_9 := y9.cell (j := 9) rfl
  go_upto_region 10 with fail
  go_cut [31] (fun s W => s = .bool false ∧ Below w9.heap.size w9 W)
  case first =>
    go_region_with (first | (go_at_call 43; refine (toReplica_c n A5 c5 A7 c7 A8 c8 A9 c9 _ (h5.below (by repeat (first | (with_reducible assumption) | (with_reducible exact Below.refl _ _) | (with_reducible apply below_alloc) | (with_reducible apply below_drewN) | (with_reducible apply Below.drew) | (with_reducible refine below_set ?_ (by dsimp only; omega) _) | (with_reducible refine below_trans ?_ (by assumption))))) (h7.below (by repeat (first | (with_reducible assumption) | (with_reducible exact Below.refl _ _) | (with_reducible apply below_alloc) | (with_reducible apply below_drewN) | (with_reducible apply Below.drew) | (with_reducible refine below_set ?_ (by dsimp only; omega) _) | (with_reducible refine below_trans ?_ (by assumption))))) (h8.below (by repeat (first | (with_reducible assumption) | (with_reducible exact Below.refl _ _) | (with_reducible apply below_alloc) | (with_reducible apply below_drewN) | (with_reducible apply Below.drew) | (with_reducible refine below_set ?_ (by dsimp only; omega) _) | (with_reducible refine below_trans ?_ (by assumption))))) (h9.below (by repeat (first | (with_reducible assumption) | (with_reducible exact Below.refl _ _) | (with_reducible apply below_alloc) | (with_reducible apply below_drewN) | (with_reducible apply Below.drew) | (with_reducible refine below_set ?_ (by dsimp only; omega) _) | (with_reducible refine below_trans ?_ (by assumption))))) ht).mono ?_; rintro e w10 ⟨K5, K7, K8, K9, rfl, ⟨fq, nq, oq⟩, hb10⟩; obtain ⟨m5, m7, m8, m9, rfl, hK⟩ := ownReplica_parts oq nq; have b10 : Below w9.heap.size w9 w10 := below_trans (Below.refl _ _).drew hb10; have y10 := y9.below b10; have t0 := y10.cell (j := 0) rfl; have t1 := y10.cell (j := 1) rfl; have t2 := y10.cell (j := 2) rfl; have t3 := y10.cell (j := 3) rfl; have t4 := y10.cell (j := 4) rfl; have t5 := y10.cell (j := 5) rfl; have t6 := y10.cell (j := 6) rfl; have t7 := y10.cell (j := 7) rfl; have t8 := y10.cell (j := 8) rfl; have t9 := y10.cell (j := 9) rfl; have b910 := below_trans hb9 b10) | (go_at_call 46; refine (eqReplica_c n _ _ _ _ _ _ _ _ _ _ _ _ _ _ _ _ _ ((ownS_rds p8.1).1.below b910) ((ownS_rds p8.2.1).1.below b910) ((ownS_rds p8.2.2.1).1.below b910) ((ownS_rds p8.2.2.2.1).1.below b910) (ownS_rds hK.1).1 (ownS_rds hK.2.1).1 (ownS_rds hK.2.2.1).1 (ownS_rds hK.2.2.2.1).1).mono ?_; rintro e w11 ⟨rfl, hb11⟩; have b11 : Below w9.heap.size w9 w11 := below_trans b10 hb11))
    all_goals (go_wp2_with fail)
    all_goals (go_meet)
    all_goals (exact ⟨rfl, b11⟩)
  case rest =>
    obtain ⟨rfl, b10⟩ := hcut
    clear e_0 e_1 e_2 e_3 e_4 e_5 e_6 e_7 e_8 e_9
    clear y_0 y_1 y_2 y_3 y_4 y_5 y_6 y_7 y_8 y_9
    have b810 := below_trans hb9 b10
    have b310 := below_trans b38 b810
    have bw10 := below_trans bw3 b310
    have x10 := x9.below b10
    have y10 := y9.below b10
    have q10 := q8.below b810
    have z10 := z8.below b810
    have p10 : HasReplica W4.heap.size wc n (some ⟨G5, 0, none⟩) n.Log.length (some ⟨G7, 0, none⟩) n.Oks.length (some ⟨G8, 0, none⟩) n.Asks.length (some ⟨G9, 0, none⟩) n.Doers.length f5 f7 f8 f9 :=
      ⟨OwnS.bel p8.1 b810, OwnS.bel p8.2.1 b810, OwnS.bel p8.2.2.1 b810, OwnS.bel p8.2.2.2.1 b810, ndP⟩
    clear p8 x8 y8 q8 z8 x9 y9
    replace G1 := OwnS.bel G1 b810
    replace G2 := OwnS.bel G2 b810
    replace G3 := OwnS.bel G3 b810
    replace G4 := OwnS.bel G4 b810
    replace GM := OwnS.bel GM b810
    have sz10 := b810.size
    have sz38 := b38.size
    have sz3 := bw3.size
    have hF : ∀ b ∈ f5 ++ (f7 ++ (f8 ++ f9)), W4.heap.size ≤ b ∧ b < w5.heap.size := by
      intro b hb
      simp only [List.mem_append] at hb
      rcases hb with h | h | h | h <;> first | exact k5 b h | exact k7 b h | exact k8 b h | exact k9 b h
    have hG : ∀ b ∈ g6 ++ (g8 ++ (g9 ++ (g10 ++ g11))), W6.heap.size ≤ b ∧ b < w7.heap.size := by
      intro b hb
      simp only [List.mem_append] at hb
      rcases hb with h | h | h | h | h <;> first | exact j6 b h | exact j8 b h | exact j9 b h | exact j10 b h | exact j11 b h
    -- the argument is marked
    have y_0 := y10.cell (j := 0) rfl
    have y_1 := y10.cell (j := 1) rfl
    have y_2 := y10.cell (j := 2) rfl
    have y_3 := y10.cell (j := 3) rfl
    have y_4 := y10.cell (j := 4) rfl
    have y_5 := y10.cell (j := 5) rfl
    have y_6 := y10.cell (j := 6) rfl
    have y_7 := y10.cell (j := 7) rfl
    have y_8 := y10.cell (j := 8) rfl
    have y_9 := y10.cell (j := 9) rfl
    go_wp2_with fail
    clear y_0 y_1 y_2 y_3 y_4 y_5 y_6 y_7 y_8 y_9
    obtain ⟨pa, pb, pc, pd, -⟩ := p10
    with_reducible refine (markReplica_c n _ _ _ _ _ _ _ _ 1 W4.heap.size f5 f7 f8 f9 wc pa pb pc pd ndP (by omega) (by omega)).mono ?_
    intro e w11 h
    obtain ⟨v7, hv7, rfl, hT⟩ : ∃ z : Int, 0 ≤ z ∧ e = .returned (.int .i64 z) ∧ Turn (f5 ++ (f7 ++ (f8 ++ f9))) wc w11 := ⟨_, by omega, h.1, h.2.2.2.2.2⟩
    have hd7 : decide (v7 < 0) = false := decide_eq_false (by omega)
    clear h pa pb pc pd hv7 y10
    have sz11 := hT.size
    replace G1 := OwnS.turn G1 hT (fun b hb hm => by have := j6 b hb; have := hF b hm; omega)
    replace G2 := OwnS.turn G2 hT (fun b hb hm => by have := j8 b hb; have := hF b hm; omega)
    replace G3 := OwnS.turn G3 hT (fun b hb hm => by have := j9 b hb; have := hF b hm; omega)
    replace G4 := OwnS.turn G4 hT (fun b hb hm => by have := j10 b hb; have := hF b hm; omega)
    replace GM := OwnS.turn GM hT (fun b hb hm => by have := j11 b hb; have := hF b hm; omega)
    have x11 := x10.turn hT (fun hm => by have := hF _ hm; omega)
    have q11 := q10.turn hT (fun hm => by have := hF _ hm; omega)
    have z11 := z10.turn hT (fun hm => by have := hF _ hm; omega)
    have b311 := b310.trans (hT.below (B := w3.heap.size) (fun b hb => by have := hF b hb; omega) (by omega))
    have bw11 := bw10.trans (hT.below (B := w.heap.size) (fun b hb => by have := hF b hb; omega) (by omega))
    clear x10 q10 z10 hT
    have q_0 := q11.cell (j := 0) rfl
    have q_1 := q11.cell (j := 1) rfl
    have q_2 := q11.cell (j := 2) rfl
    have q_3 := q11.cell (j := 3) rfl
    have q_4 := q11.cell (j := 4) rfl
    have q_5 := q11.cell (j := 5) rfl
    have q_6 := q11.cell (j := 6) rfl
    have q_7 := q11.cell (j := 7) rfl
    have q_8 := q11.cell (j := 8) rfl
    have q_9 := q11.cell (j := 9) rfl
    have q_10 := q11.cell (j := 10) rfl
    have q_11 := q11.cell (j := 11) rfl
    have z_0 := z11.cell (j := 0) rfl
    have z_1 := z11.cell (j := 1) rfl
    have z_2 := z11.cell (j := 2) rfl
    have z_3 := z11.cell (j := 3) rfl
    have z_4 := z11.cell (j := 4) rfl
    have z_5 := z11.cell (j := 5) rfl
    have z_6 := z11.cell (j := 6) rfl
    have z_7 := z11.cell (j := 7) rfl
    have z_8 := z11.cell (j := 8) rfl
    have z_9 := z11.cell (j := 9) rfl
    have z_10 := z11.cell (j := 10) rfl
    have z_11 := z11.cell (j := 11) rfl
    go_wp2_with fail
    clear q_0 q_1 q_2 q_3 q_4 q_5 q_6 q_7 q_8 q_9 q_10 q_11 z_0 z_1 z_2 z_3 z_4 z_5 z_6 z_7 z_8 z_9 z_10 z_11
    with_reducible refine (eqReplicaResult_c X P6 a6 P8 a8 P9 a9 P10 a10 P11 a11 S6 s6 S8 s8 S9 s9 S10 s10 S11 s11 w11 (ownS_rds G1).1 (ownS_rds G2).1 (ownS_rds G3).1 (ownS_rds G4).1 (ownS_rds GM).1 (r6.below b311) (r8.below b311) (r9.below b311) (r10.below b311) (r11.below b311)).mono ?_
    rintro e w12 ⟨rfl, hb12⟩
    replace G1 := OwnS.bel G1 hb12
    replace G2 := OwnS.bel G2 hb12
    replace G3 := OwnS.bel G3 hb12
    replace G4 := OwnS.bel G4 hb12
    replace GM := OwnS.bel GM hb12
    have x12 := x11.below hb12
    have q12 := q11.below hb12
    have z12 := z11.below hb12
    have b312 := below_trans b311 hb12
    have bw12 := below_trans bw11 hb12
    have sz12 := hb12.size
    clear x11 q11 z11
    have q_0 := q12.cell (j := 0) rfl
    have q_1 := q12.cell (j := 1) rfl
    have q_2 := q12.cell (j := 2) rfl
    have q_3 := q12.cell (j := 3) rfl
    have q_4 := q12.cell (j := 4) rfl
    have q_5 := q12.cell (j := 5) rfl
    have q_6 := q12.cell (j := 6) rfl
    have q_7 := q12.cell (j := 7) rfl
    have q_8 := q12.cell (j := 8) rfl
    have q_9 := q12.cell (j := 9) rfl
    have q_10 := q12.cell (j := 10) rfl
    have q_11 := q12.cell (j := 11) rfl
    go_wp2_with fail
    clear q_0 q_1 q_2 q_3 q_4 q_5 q_6 q_7 q_8 q_9 q_10 q_11
    with_reducible refine (markReplicaResult_c X P6 a6 P8 a8 P9 a9 P10 a10 P11 a11 1 W6.heap.size g6 g8 g9 g10 g11 w12 G1 G2 G3 G4 GM ndG (by omega) (by omega)).mono ?_
    intro e w13 h
    obtain ⟨v8, hv8, h8', rfl, M1, M2, M3, M4, MM, hU⟩ : ∃ z : Int, Hid (1 + ↑(ctL ctEntry X.Replica.Log) + ↑(ctL ctI X.Replica.Oks) + ↑(ctL ctB X.Replica.Asks) + ↑(ctL ctDoer X.Replica.Doers) + ↑(ctL ctMail X.Send) = z) ∧ 0 ≤ z ∧ e = .returned (.int .i64 z) ∧ _ := ⟨_, Lib.hid rfl, by omega, h.1, h.2⟩
    have hd8 : decide (v8 < 0) = false := decide_eq_false (by omega)
    clear h G1 G2 G3 G4 GM
    have sz13 := hU.size
    have x13 := x12.turn hU (fun hm => by have := hG _ hm; omega)
    have q13 := q12.turn hU (fun hm => by have := hG _ hm; omega)
    have z13 := z12.turn hU (fun hm => by have := hG _ hm; omega)
    have b313 := b312.trans (hU.below (B := w3.heap.size) (fun b hb => by have := hG b hb; omega) (by omega))
    have bw13 := bw12.trans (hU.below (B := w.heap.size) (fun b hb => by have := hG b hb; omega) (by omega))
    clear x12 q12 z12 hU
    have q_0 := q13.cell (j := 0) rfl
    have q_1 := q13.cell (j := 1) rfl
    have q_2 := q13.cell (j := 2) rfl
    have q_3 := q13.cell (j := 3) rfl
    have q_4 := q13.cell (j := 4) rfl
    have q_5 := q13.cell (j := 5) rfl
    have q_6 := q13.cell (j := 6) rfl
    have q_7 := q13.cell (j := 7) rfl
    have q_8 := q13.cell (j := 8) rfl
    have q_9 := q13.cell (j := 9) rfl
    have q_10 := q13.cell (j := 10) rfl
    have q_11 := q13.cell (j := 11) rfl
    go_wp2_with fail
    clear q_0 q_1 q_2 q_3 q_4 q_5 q_6 q_7 q_8 q_9 q_10 q_11
    with_reducible refine (heldReplicaResult_c X P6 a6 P8 a8 P9 a9 P10 a10 P11 a11 1 w13 (ownS_rds M1).1 (ownS_rds M2).1 (ownS_rds M3).1 (ownS_rds M4).1 (ownS_rds MM).1 (by omega) (by omega)).mono ?_
    intro e w14 h
    obtain ⟨rfl, hb14⟩ : e = .returned (.int .i64 v8) ∧ Below w13.heap.size w13 w14 := ⟨by rw [h.1, hv8.out], h.2⟩
    clear h
    have x14 := x13.below hb14
    have q14 := q13.below hb14
    have z14 := z13.below hb14
    replace M1 := OwnS.bel M1 hb14
    replace M2 := OwnS.bel M2 hb14
    replace M3 := OwnS.bel M3 hb14
    replace M4 := OwnS.bel M4 hb14
    replace MM := OwnS.bel MM hb14
    have b314 := below_trans b313 hb14
    have bw14 := below_trans bw13 hb14
    clear x13 q13 z13
    have e_0 := x14.cell (j := 0) rfl
    have e_1 := x14.cell (j := 1) rfl
    have e_2 := x14.cell (j := 2) rfl
    have e_3 := x14.cell (j := 3) rfl
    have e_4 := x14.cell (j := 4) rfl
    have e_5 := x14.cell (j := 5) rfl
    have e_6 := x14.cell (j := 6) rfl
    have e_7 := x14.cell (j := 7) rfl
    have e_8 := x14.cell (j := 8) rfl
    have e_9 := x14.cell (j := 9) rfl
    go_wp2_with fail
    clear e_0 e_1 e_2 e_3 e_4 e_5 e_6 e_7 e_8 e_9
    -- asked once more
    with_reducible refine (toReplica_c n A5 c5 A7 c7 A8 c8 A9 c9 w14 (h5.below bw14) (h7.below bw14) (h8.below bw14) (h9.below bw14) ht).mono ?_
    rintro e w15 ⟨I5, I7, I8, I9, rfl, ⟨fp, nd, ow⟩, hb15⟩
    obtain ⟨i5, i7, i8, i9, rfl, hP⟩ := ownReplica_parts ow nd
    clear ow nd
    go_wp2_with fail
    obtain ⟨pa, pb, pc, pd, -⟩ := hP
    with_reducible refine (HI.out _ _ _ _ _ _ _ _ w15 (ownS_rds pa).1 (ownS_rds pb).1 (ownS_rds pc).1 (ownS_rds pd).1).mono ?_
    rintro e w16 ⟨R6, d6, R8, d8, R9, d9, R10, d10, R11, d11, u6, u8, u9, u10, u11, rfl, hS, hb16⟩
    obtain ⟨hS1, hS2, hS3, hS4, hS5, -⟩ := hS
    have o6 := (ownS_rds hS1).1
    have o8 := (ownS_rds hS2).1
    have o9 := (ownS_rds hS3).1
    have o10 := (ownS_rds hS4).1
    have o11 := (ownS_rds hS5).1
    clear pa pb pc pd hS1 hS2 hS3 hS4 hS5 i5 i7 i8 i9 u6 u8 u9 u10 u11
    have b1416 := below_trans hb15 hb16
    go_upto_region 25 with fail
    refine at_world (fun W => Blk W w16.heap.size 61 [.int .i64 X.Code, .int .i64 X.Replica.Id, .int .i64 X.Replica.Size, .int .i64 X.Replica.View, .bool X.Replica.Normal, .int .i64 X.Replica.Last, .slice R6 X.Replica.Log.length d6, .int .i64 X.Replica.Commit, .slice R8 X.Replica.Oks.length d8, .slice R9 X.Replica.Asks.length d9, .slice R10 X.Replica.Doers.length d10, .slice R11 X.Send.length d11] ∧ Below w16.heap.size w16 W) ⟨blk_alloc w16 [.int .i64 X.Code, .int .i64 X.Replica.Id, .int .i64 X.Replica.Size, .int .i64 X.Replica.View, .bool X.Replica.Normal, .int .i64 X.Replica.Last, .slice R6 X.Replica.Log.length d6, .int .i64 X.Replica.Commit, .slice R8 X.Replica.Oks.length d8, .slice R9 X.Replica.Asks.length d9, .slice R10 X.Replica.Doers.length d10, .slice R11 X.Send.length d11] _, below_alloc (Below.refl _ _) _⟩ ?_
    rintro W17 ⟨t17, b17⟩
    have b1417 := below_trans b1416 b17
    have q17 := q14.below b1417
    have z17 := z14.below b1417
    replace M1 := OwnS.bel M1 b1417
    replace M2 := OwnS.bel M2 b1417
    replace M3 := OwnS.bel M3 b1417
    replace M4 := OwnS.bel M4 b1417
    replace MM := OwnS.bel MM b1417
    have b317 := below_trans b314 b1417
    have bw17 := below_trans bw14 b1417
    clear x14 q14 z14
    have t_0 := t17.cell (j := 0) rfl
    have t_1 := t17.cell (j := 1) rfl
    have t_2 := t17.cell (j := 2) rfl
    have t_3 := t17.cell (j := 3) rfl
    have t_4 := t17.cell (j := 4) rfl
    have t_5 := t17.cell (j := 5) rfl
    have t_6 := t17.cell (j := 6) rfl
    have t_7 := t17.cell (j := 7) rfl
    have t_8 := t17.cell (j := 8) rfl
    have t_9 := t17.cell (j := 9) rfl
    have t_10 := t17.cell (j := 10) rfl
    have t_11 := t17.cell (j := 11) rfl
    have z_0 := z17.cell (j := 0) rfl
    have z_1 := z17.cell (j := 1) rfl
    have z_2 := z17.cell (j := 2) rfl
    have z_3 := z17.cell (j := 3) rfl
    have z_4 := z17.cell (j := 4) rfl
    have z_5 := z17.cell (j := 5) rfl
    have z_6 := z17.cell (j := 6) rfl
    have z_7 := z17.cell (j := 7) rfl
    have z_8 := z17.cell (j := 8) rfl
    have z_9 := z17.cell (j := 9) rfl
    have z_10 := z17.cell (j := 10) rfl
    have z_11 := z17.cell (j := 11) rfl
    go_wp2_with fail
    clear t_0 t_1 t_2 t_3 t_4 t_5 t_6 t_7 t_8 t_9 t_10 t_11 
    clear z_0 z_1 z_2 z_3 z_4 z_5 z_6 z_7 z_8 z_9 z_10 z_11
    with_reducible refine (eqReplicaResult_c X R6 d6 R8 d8 R9 d9 R10 d10 R11 d11 S6 s6 S8 s8 S9 s9 S10 s10 S11 s11 W17 (o6.below b17) (o8.below b17) (o9.below b17) (o10.below b17) (o11.below b17) (r6.below b317) (r8.below b317) (r9.below b317) (r10.below b317) (r11.below b317)).mono ?_
    rintro e w18 ⟨rfl, hb18⟩
    have q18 := q17.below hb18
    have bw18 := below_trans bw17 hb18
    replace M1 := OwnS.bel M1 hb18
    replace M2 := OwnS.bel M2 hb18
    replace M3 := OwnS.bel M3 hb18
    replace M4 := OwnS.bel M4 hb18
    replace MM := OwnS.bel MM hb18
    clear q17 z17
    have q_0 := q18.cell (j := 0) rfl
    have q_1 := q18.cell (j := 1) rfl
    have q_2 := q18.cell (j := 2) rfl
    have q_3 := q18.cell (j := 3) rfl
    have q_4 := q18.cell (j := 4) rfl
    have q_5 := q18.cell (j := 5) rfl
    have q_6 := q18.cell (j := 6) rfl
    have q_7 := q18.cell (j := 7) rfl
    have q_8 := q18.cell (j := 8) rfl
    have q_9 := q18.cell (j := 9) rfl
    have q_10 := q18.cell (j := 10) rfl
    have q_11 := q18.cell (j := 11) rfl
    go_wp2_with fail
    clear q_0 q_1 q_2 q_3 q_4 q_5 q_6 q_7 q_8 q_9 q_10 q_11
    with_reducible refine (heldReplicaResult_c X P6 a6 P8 a8 P9 a9 P10 a10 P11 a11 1 w18 (ownS_rds M1).1 (ownS_rds M2).1 (ownS_rds M3).1 (ownS_rds M4).1 (ownS_rds MM).1 (by omega) (by omega)).mono ?_
    intro e w19 h
    obtain ⟨rfl, hb19⟩ : e = .returned (.int .i64 v8) ∧ Below w18.heap.size w18 w19 := ⟨by rw [h.1, hv8.out], h.2⟩
    clear h
    have bw19 := below_trans bw18 hb19
    go_wp2_with fail
    go_ret
    exact ⟨rfl, bw19⟩
end Go.Proofs.Ytfffbjeaebmhbaa
