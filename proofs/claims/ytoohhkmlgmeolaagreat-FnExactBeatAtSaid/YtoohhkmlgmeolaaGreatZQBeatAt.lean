/- The law BeatAt, walked (written by gLaw.py, own work). -/
import Derived.Test.YtoohhkmlgmeolaaGreatZJ12
set_option linter.unusedVariables false
set_option linter.unusedSimpArgs false
namespace Go.Proofs.YtoohhkmlgmeolaaGreat
open Go Go.RowKit Mk
set_option maxRecDepth 100000 in
set_option maxHeartbeats 8000000 in
theorem law_BeatAt (n : SCluster) (k : Int) (A0 : Option Addr) (c0 : Nat) (A1 : Option Addr) (c1 : Nat) (A2 : Option Addr) (c2 : Nat) (w : World) (h0 : RdS kReplica w A0 c0 n.Nodes) (h1 : RdS kMail w A1 c1 n.Mails) (h2 : RdS kEntry w A2 c2 n.Sealed) :
    Calls Tryz.prog 9 #[.agg #[.slice A0 n.Nodes.length c0, .slice A1 n.Mails.length c1, .slice A2 n.Sealed.length c2], .int .i64 k] w fun e w' => e = .returned (.bool true) ∧ Below w.heap.size w w' := by
  have HS := Lib.hid (sBeatAt_c n k)
  have HI := Lib.hid (iBeatAt_c n k)
  have cX := atBeatX_small n k
  generalize atX beatX n k = X at HS HI cX
  go_enter Tryz.func9, Tryz.ntmps9
  go_wp2_with fail
  refine (szCluster_c n _ _ _ _ _ _ _ _ (h0.below (by repeat (first | (with_reducible assumption) | (with_reducible exact Below.refl _ _) | (with_reducible apply below_alloc) | (with_reducible apply below_drewN) | (with_reducible apply Below.drew) | (with_reducible refine below_set ?_ (by dsimp only; omega) _) | (with_reducible refine below_trans ?_ (by assumption))))) (h1.below (by repeat (first | (with_reducible assumption) | (with_reducible exact Below.refl _ _) | (with_reducible apply below_alloc) | (with_reducible apply below_drewN) | (with_reducible apply Below.drew) | (with_reducible refine below_set ?_ (by dsimp only; omega) _) | (with_reducible refine below_trans ?_ (by assumption))))) (h2.below (by repeat (first | (with_reducible assumption) | (with_reducible exact Below.refl _ _) | (with_reducible apply below_alloc) | (with_reducible apply below_drewN) | (with_reducible apply Below.drew) | (with_reducible refine below_set ?_ (by dsimp only; omega) _) | (with_reducible refine below_trans ?_ (by assumption))))) (by omega) (by omega)).mono ?_
  rintro e w1 ⟨⟨r, rfl, hr⟩, hb1⟩
  have bw1 : Below w.heap.size w w1 := by repeat (first | (with_reducible assumption) | (with_reducible exact Below.refl _ _) | (with_reducible apply below_alloc) | (with_reducible apply below_drewN) | (with_reducible apply Below.drew) | (with_reducible refine below_set ?_ (by dsimp only; omega) _) | (with_reducible refine below_trans ?_ (by assumption)))
  have x1 : Blk w1 w.heap.size 68 [.slice A0 n.Nodes.length c0, .slice A1 n.Mails.length c1, .slice A2 n.Sealed.length c2] := (blk_alloc w [.slice A0 n.Nodes.length c0, .slice A1 n.Mails.length c1, .slice A2 n.Sealed.length c2] 68).below hb1
  by_cases hr0 : r < 0
  · have hd : decide (r < 0) = true := decide_eq_true hr0
    go_wp2_with fail
    go_ret
    exact ⟨rfl, bw1⟩
  have hd : decide (r < 0) = false := decide_eq_false hr0
  have ht : totCluster n ≤ 1048576 := by unfold Left at hr; omega
  have cN := ctCluster_arg ht
  clear hr0 hr
  have e_0 := x1.cell (j := 0) rfl
  have e_1 := x1.cell (j := 1) rfl
  have e_2 := x1.cell (j := 2) rfl
  go_wp2_with fail
  clear e_0 e_1 e_2
  clear hd
  -- what the reference is asked, and answers
  refine (toCluster_c n A0 c0 A1 c1 A2 c2 w1 (h0.below bw1) (h1.below bw1) (h2.below bw1) ht).mono ?_
  rintro e w2 ⟨G0, G1, G2, rfl, ⟨fp, nd, ow⟩, hb2⟩
  obtain ⟨f0, f1, f2, rfl, hP⟩ := ownCluster_parts ow nd
  clear ow nd
  go_wp2_with fail
  refine (HS.out _ _ _ _ _ _ w2 (ownS_rds hP.1).1 (ownS_rds hP.2.1).1 (ownS_rds hP.2.2.1).1).mono ?_
  rintro e w3 ⟨S1, s1, S2, s2, S3, s3, u1, u2, u3, rfl, hS, hb3⟩
  have r1 := (ownS_rds hS.1).1
  have r2 := (ownS_rds hS.2.1).1
  have r3 := (ownS_rds hS.2.2.1).1
  clear hP hS f0 f1 f2 u1 u2 u3
  have bw3 : Below w.heap.size w w3 := below_trans bw1 (below_trans hb2 hb3)
  have x3 := x1.below (below_trans hb2 hb3)
  have xl := x3.lt
  clear hb1 hb2 hb3 x1 bw1
  have e_0 := x3.cell (j := 0) rfl
  have e_1 := x3.cell (j := 1) rfl
  have e_2 := x3.cell (j := 2) rfl
  go_upto_region 6 with fail
  clear e_0 e_1 e_2
  refine at_world (fun W => Blk W w3.heap.size 74 [.int .i64 X.Code, .slice S1 X.Cluster.Nodes.length s1, .slice S2 X.Cluster.Mails.length s2, .slice S3 X.Cluster.Sealed.length s3] ∧ Below w3.heap.size w3 W ∧ w3.heap.size < W.heap.size) ⟨blk_alloc w3 [.int .i64 X.Code, .slice S1 X.Cluster.Nodes.length s1, .slice S2 X.Cluster.Mails.length s2, .slice S3 X.Cluster.Sealed.length s3] _, below_alloc (Below.refl _ _) _, by rw [Deep.nblk_alloc]; omega⟩ ?_
  rintro W4 ⟨z4, b4, l4⟩
  have x4 := x3.below b4
  have e_0 := x4.cell (j := 0) rfl
  have e_1 := x4.cell (j := 1) rfl
  have e_2 := x4.cell (j := 2) rfl
  go_wp2_with fail
  clear e_0 e_1 e_2
  -- the argument of the program
  refine (toCluster_c n A0 c0 A1 c1 A2 c2 W4 (h0.below (below_trans bw3 b4)) (h1.below (below_trans bw3 b4)) (h2.below (below_trans bw3 b4)) ht).mono ?_
  rintro e w5 ⟨G0, G1, G2, rfl, ⟨fp, nd, ow⟩, hb5⟩
  obtain ⟨f0, f1, f2, rfl, hP⟩ := ownCluster_parts ow nd
  clear ow nd
  have k0 := hP.1.in
  have k1 := hP.2.1.in
  have k2 := hP.2.2.1.in
  have ndP := hP.2.2.2
  go_upto_region 7 with fail
  refine at_world (fun W => Blk W w5.heap.size 42 [.slice (some ⟨G0, 0, none⟩) n.Nodes.length n.Nodes.length, .slice (some ⟨G1, 0, none⟩) n.Mails.length n.Mails.length, .slice (some ⟨G2, 0, none⟩) n.Sealed.length n.Sealed.length] ∧ Below w5.heap.size w5 W ∧ w5.heap.size < W.heap.size) ⟨blk_alloc w5 [.slice (some ⟨G0, 0, none⟩) n.Nodes.length n.Nodes.length, .slice (some ⟨G1, 0, none⟩) n.Mails.length n.Mails.length, .slice (some ⟨G2, 0, none⟩) n.Sealed.length n.Sealed.length] _, below_alloc (Below.refl _ _) _, by rw [Deep.nblk_alloc]; omega⟩ ?_
  rintro W6 ⟨y6, b6, l6⟩
  have b46 := below_trans hb5 b6
  have l5 := hb5.size
  have p6 : HasCluster W4.heap.size W6 n (some ⟨G0, 0, none⟩) n.Nodes.length (some ⟨G1, 0, none⟩) n.Mails.length (some ⟨G2, 0, none⟩) n.Sealed.length f0 f1 f2 := ⟨OwnS.keep hP.1 (fun b hb => b6.block b (k0 b hb).2), OwnS.keep hP.2.1 (fun b hb => b6.block b (k1 b hb).2), OwnS.keep hP.2.2.1 (fun b hb => b6.block b (k2 b hb).2), ndP⟩
  clear hP
  have x6 := x4.below b46
  have z6 := z4.below b46
  have y_0 := y6.cell (j := 0) rfl
  have y_1 := y6.cell (j := 1) rfl
  have y_2 := y6.cell (j := 2) rfl
  go_wp2_with fail
  clear y_0 y_1 y_2
  -- what the program answers
  refine (HI.out _ _ _ _ _ _ W6 (ownS_rds p6.1).1 (ownS_rds p6.2.1).1 (ownS_rds p6.2.2.1).1).mono ?_
  rintro e w7 ⟨P1, a1, P2, a2, P3, a3, g1, g2, g3, rfl, hG, hb7⟩
  obtain ⟨GF1, GF2, GF3, ndG⟩ := hG
  have j1 := GF1.in
  have j2 := GF2.in
  have j3 := GF3.in
  have p7 : HasCluster W4.heap.size w7 n (some ⟨G0, 0, none⟩) n.Nodes.length (some ⟨G1, 0, none⟩) n.Mails.length (some ⟨G2, 0, none⟩) n.Sealed.length f0 f1 f2 := ⟨OwnS.keep p6.1 (fun b hb => hb7.block b (p6.1.in b hb).2), OwnS.keep p6.2.1 (fun b hb => hb7.block b (p6.2.1.in b hb).2), OwnS.keep p6.2.2.1 (fun b hb => hb7.block b (p6.2.2.1.in b hb).2), ndP⟩
  clear p6
  go_upto_region 8 with fail
  refine at_world (fun W => Blk W w7.heap.size 74 [.int .i64 X.Code, .slice P1 X.Cluster.Nodes.length a1, .slice P2 X.Cluster.Mails.length a2, .slice P3 X.Cluster.Sealed.length a3] ∧ Below w7.heap.size w7 W ∧ w7.heap.size < W.heap.size) ⟨blk_alloc w7 [.int .i64 X.Code, .slice P1 X.Cluster.Nodes.length a1, .slice P2 X.Cluster.Mails.length a2, .slice P3 X.Cluster.Sealed.length a3] _, below_alloc (Below.refl _ _) _, by rw [Deep.nblk_alloc]; omega⟩ ?_
  rintro W8 ⟨q8, b8, l8⟩
  have l7 := hb7.size
  have b68 := below_trans hb7 b8
  have b48 := below_trans b46 b68
  have b38 := below_trans b4 b48
  have x8 := x6.below b68
  have y8 := y6.below b68
  have z8 := z6.below b68
  replace GF1 := OwnS.keep GF1 (fun b hb => b8.block b (j1 b hb).2)
  replace GF2 := OwnS.keep GF2 (fun b hb => b8.block b (j2 b hb).2)
  replace GF3 := OwnS.keep GF3 (fun b hb => b8.block b (j3 b hb).2)
  have p8 : HasCluster W4.heap.size W8 n (some ⟨G0, 0, none⟩) n.Nodes.length (some ⟨G1, 0, none⟩) n.Mails.length (some ⟨G2, 0, none⟩) n.Sealed.length f0 f1 f2 := ⟨OwnS.keep p7.1 (fun b hb => b8.block b (p7.1.in b hb).2), OwnS.keep p7.2.1 (fun b hb => b8.block b (p7.2.1.in b hb).2), OwnS.keep p7.2.2.1 (fun b hb => b8.block b (p7.2.2.1.in b hb).2), ndP⟩
  clear p7 x6 y6 z6 x4 z4 x3
  have q_0 := q8.cell (j := 0) rfl
  have q_1 := q8.cell (j := 1) rfl
  have q_2 := q8.cell (j := 2) rfl
  have q_3 := q8.cell (j := 3) rfl
  have z_0 := z8.cell (j := 0) rfl
  have z_1 := z8.cell (j := 1) rfl
  have z_2 := z8.cell (j := 2) rfl
  have z_3 := z8.cell (j := 3) rfl
  go_wp2_with fail
  clear q_0 q_1 q_2 q_3
  clear z_0 z_1 z_2 z_3
  refine (eqClusterResult_c X P1 a1 P2 a2 P3 a3 S1 s1 S2 s2 S3 s3 W8 (ownS_rds GF1).1 (ownS_rds GF2).1 (ownS_rds GF3).1 (r1.below b38) (r2.below b38) (r3.below b38)).mono ?_
  rintro e w9 ⟨rfl, hb9⟩
  have x9 := x8.below hb9
  have y9 := y8.below hb9
  have bw9 : Below w.heap.size w w9 := below_trans (below_trans bw3 b38) hb9
  have xl9 := x9.lt
  have yl9 := y9.lt
  have e_0 := x9.cell (j := 0) rfl
  have e_1 := x9.cell (j := 1) rfl
  have e_2 := x9.cell (j := 2) rfl
  have y_0 := y9.cell (j := 0) rfl
  have y_1 := y9.cell (j := 1) rfl
  have y_2 := y9.cell (j := 2) rfl
  go_upto_region 10 with fail
  go_cut [35] (fun s W => s = .bool false ∧ Below w9.heap.size w9 W)
  case first =>
    go_region_with (first | (go_at_call 44; refine (toCluster_c n A0 c0 A1 c1 A2 c2 _ (h0.below (by repeat (first | (with_reducible assumption) | (with_reducible exact Below.refl _ _) | (with_reducible apply below_alloc) | (with_reducible apply below_drewN) | (with_reducible apply Below.drew) | (with_reducible refine below_set ?_ (by dsimp only; omega) _) | (with_reducible refine below_trans ?_ (by assumption))))) (h1.below (by repeat (first | (with_reducible assumption) | (with_reducible exact Below.refl _ _) | (with_reducible apply below_alloc) | (with_reducible apply below_drewN) | (with_reducible apply Below.drew) | (with_reducible refine below_set ?_ (by dsimp only; omega) _) | (with_reducible refine below_trans ?_ (by assumption))))) (h2.below (by repeat (first | (with_reducible assumption) | (with_reducible exact Below.refl _ _) | (with_reducible apply below_alloc) | (with_reducible apply below_drewN) | (with_reducible apply Below.drew) | (with_reducible refine below_set ?_ (by dsimp only; omega) _) | (with_reducible refine below_trans ?_ (by assumption))))) ht).mono ?_; rintro e w10 ⟨K0, K1, K2, rfl, ⟨fq, nq, oq⟩, hb10⟩; obtain ⟨m0, m1, m2, rfl, hK⟩ := ownCluster_parts oq nq; have b10 : Below w9.heap.size w9 w10 := below_trans (Below.refl _ _).drew hb10; have y10 := y9.below b10; have t0 := y10.cell (j := 0) rfl; have t1 := y10.cell (j := 1) rfl; have t2 := y10.cell (j := 2) rfl; have b910 := below_trans hb9 b10) | (go_at_call 48; refine (eqCluster_c n _ _ _ _ _ _ _ _ _ _ _ _ _ ((ownS_rds p8.1).1.below b910) ((ownS_rds p8.2.1).1.below b910) ((ownS_rds p8.2.2.1).1.below b910) (ownS_rds hK.1).1 (ownS_rds hK.2.1).1 (ownS_rds hK.2.2.1).1).mono ?_; rintro e w11 ⟨rfl, hb11⟩; have b11 : Below w9.heap.size w9 w11 := below_trans b10 hb11))
    all_goals (go_wp2_with fail)
    all_goals (go_meet)
    all_goals (exact ⟨rfl, b11⟩)
  case rest =>
    obtain ⟨rfl, b10⟩ := hcut
    clear e_0 e_1 e_2
    clear y_0 y_1 y_2
    have b810 := below_trans hb9 b10
    have b310 := below_trans b38 b810
    have bw10 := below_trans bw3 b310
    have x10 := x9.below b10
    have y10 := y9.below b10
    have q10 := q8.below b810
    have z10 := z8.below b810
    have p10 : HasCluster W4.heap.size wc n (some ⟨G0, 0, none⟩) n.Nodes.length (some ⟨G1, 0, none⟩) n.Mails.length (some ⟨G2, 0, none⟩) n.Sealed.length f0 f1 f2 := ⟨OwnS.bel' p8.1 b810, OwnS.bel' p8.2.1 b810, OwnS.bel' p8.2.2.1 b810, ndP⟩
    clear p8 x8 y8 q8 z8 x9 y9
    replace GF1 := OwnS.bel' GF1 b810
    replace GF2 := OwnS.bel' GF2 b810
    replace GF3 := OwnS.bel' GF3 b810
    have sz10 := b810.size
    have sz38 := b38.size
    have sz3 := bw3.size
    have hF : ∀ b ∈ (f0 ++ (f1 ++ f2)), W4.heap.size ≤ b ∧ b < w5.heap.size := by
      intro b hb
      simp only [List.mem_append] at hb
      rcases hb with h | h | h <;> first | exact k0 b h | exact k1 b h | exact k2 b h
    have hG : ∀ b ∈ (g1 ++ (g2 ++ g3)), W6.heap.size ≤ b ∧ b < w7.heap.size := by
      intro b hb
      simp only [List.mem_append] at hb
      rcases hb with h | h | h <;> first | exact j1 b h | exact j2 b h | exact j3 b h
    -- the argument is marked
    have y_0 := y10.cell (j := 0) rfl
    have y_1 := y10.cell (j := 1) rfl
    have y_2 := y10.cell (j := 2) rfl
    go_wp2_with fail
    clear y_0 y_1 y_2
    obtain ⟨pp0, pp1, pp2, -⟩ := p10
    with_reducible refine (markCluster_c n _ _ _ _ _ _ 1 W4.heap.size f0 f1 f2 wc pp0 pp1 pp2 ndP (by omega) (by omega)).mono ?_
    intro e w11 h
    obtain ⟨v7, hv7, rfl, hT⟩ : ∃ z : Int, 0 ≤ z ∧ e = .returned (.int .i64 z) ∧ Turn (f0 ++ (f1 ++ f2)) wc w11 := ⟨_, by omega, h.1, h.2.2.2.2⟩
    have hd7 : decide (v7 < 0) = false := decide_eq_false (by omega)
    clear h pp0 pp1 pp2 hv7 y10
    have sz11 := hT.size
    replace GF1 := OwnS.turn GF1 hT (fun b hb hm => by have := j1 b hb; have := hF b hm; omega)
    replace GF2 := OwnS.turn GF2 hT (fun b hb hm => by have := j2 b hb; have := hF b hm; omega)
    replace GF3 := OwnS.turn GF3 hT (fun b hb hm => by have := j3 b hb; have := hF b hm; omega)
    have x11 := x10.turn hT (fun hm => by have := hF _ hm; omega)
    have q11 := q10.turn hT (fun hm => by have := hF _ hm; omega)
    have z11 := z10.turn hT (fun hm => by have := hF _ hm; omega)
    have b311 := b310.trans (hT.below (B := w3.heap.size) (fun b hb => by have := hF b hb; omega) (by omega))
    have bw11 := bw10.trans (hT.below (B := w.heap.size) (fun b hb => by have := hF b hb; omega) (by omega))
    clear x10 q10 z10 hT
    have q_0 := q11.cell (j := 0) rfl
    have q_1 := q11.cell (j := 1) rfl
    have q_2 := q11.cell (j := 2) rfl
    have q_3 := q11.cell (j := 3) rfl
    have z_0 := z11.cell (j := 0) rfl
    have z_1 := z11.cell (j := 1) rfl
    have z_2 := z11.cell (j := 2) rfl
    have z_3 := z11.cell (j := 3) rfl
    go_wp2_with fail
    clear q_0 q_1 q_2 q_3
    clear z_0 z_1 z_2 z_3
    with_reducible refine (eqClusterResult_c X P1 a1 P2 a2 P3 a3 S1 s1 S2 s2 S3 s3 w11 (ownS_rds GF1).1 (ownS_rds GF2).1 (ownS_rds GF3).1 (r1.below b311) (r2.below b311) (r3.below b311)).mono ?_
    rintro e w12 ⟨rfl, hb12⟩
    replace GF1 := OwnS.bel' GF1 hb12
    replace GF2 := OwnS.bel' GF2 hb12
    replace GF3 := OwnS.bel' GF3 hb12
    have x12 := x11.below hb12
    have q12 := q11.below hb12
    have z12 := z11.below hb12
    have b312 := below_trans b311 hb12
    have bw12 := below_trans bw11 hb12
    have sz12 := hb12.size
    clear x11 q11 z11
    have q_0 := q12.cell (j := 0) rfl
    have q_1 := q12.cell (j := 1) rfl
    have q_2 := q12.cell (j := 2) rfl
    have q_3 := q12.cell (j := 3) rfl
    go_wp2_with fail
    clear q_0 q_1 q_2 q_3
    with_reducible refine (markClusterResult_c X P1 a1 P2 a2 P3 a3 1 W6.heap.size g1 g2 g3 w12 GF1 GF2 GF3 ndG (by omega) (by omega)).mono ?_
    intro e w13 h
    obtain ⟨v8, hv8, h8', rfl, MF1, MF2, MF3, hU⟩ : ∃ z : Int, Hid (1 + ↑(ctL ctReplica X.Cluster.Nodes) + ↑(ctL ctMail X.Cluster.Mails) + ↑(ctL ctEntry X.Cluster.Sealed) = z) ∧ 0 ≤ z ∧ e = .returned (.int .i64 z) ∧ _ := ⟨_, Lib.hid rfl, by omega, h.1, h.2⟩
    have hd8 : decide (v8 < 0) = false := decide_eq_false (by omega)
    clear h GF1 GF2 GF3
    have sz13 := hU.size
    have x13 := x12.turn hU (fun hm => by have := hG _ hm; omega)
    have q13 := q12.turn hU (fun hm => by have := hG _ hm; omega)
    have z13 := z12.turn hU (fun hm => by have := hG _ hm; omega)
    have b313 := b312.trans (hU.below (B := w3.heap.size) (fun b hb => by have := hG b hb; omega) (by omega))
    have bw13 := bw12.trans (hU.below (B := w.heap.size) (fun b hb => by have := hG b hb; omega) (by omega))
    clear x12 q12 z12 hU
    have q_0 := q13.cell (j := 0) rfl
    have q_1 := q13.cell (j := 1) rfl
    have q_2 := q13.cell (j := 2) rfl
    have q_3 := q13.cell (j := 3) rfl
    go_wp2_with fail
    clear q_0 q_1 q_2 q_3
    with_reducible refine (heldClusterResult_c X P1 a1 P2 a2 P3 a3 1 w13 (ownS_rds MF1).1 (ownS_rds MF2).1 (ownS_rds MF3).1 (by omega) (by omega)).mono ?_
    intro e w14 h
    obtain ⟨rfl, hb14⟩ : e = .returned (.int .i64 v8) ∧ Below w13.heap.size w13 w14 := ⟨by rw [h.1, hv8.out], h.2⟩
    clear h
    have x14 := x13.below hb14
    have q14 := q13.below hb14
    have z14 := z13.below hb14
    replace MF1 := OwnS.bel' MF1 hb14
    replace MF2 := OwnS.bel' MF2 hb14
    replace MF3 := OwnS.bel' MF3 hb14
    have b314 := below_trans b313 hb14
    have bw14 := below_trans bw13 hb14
    clear x13 q13 z13
    have e_0 := x14.cell (j := 0) rfl
    have e_1 := x14.cell (j := 1) rfl
    have e_2 := x14.cell (j := 2) rfl
    go_wp2_with fail
    clear e_0 e_1 e_2
    -- asked once more
    with_reducible refine (toCluster_c n A0 c0 A1 c1 A2 c2 w14 (h0.below bw14) (h1.below bw14) (h2.below bw14) ht).mono ?_
    rintro e w15 ⟨I0, I1, I2, rfl, ⟨fp, nd, ow⟩, hb15⟩
    obtain ⟨i0, i1, i2, rfl, hP⟩ := ownCluster_parts ow nd
    clear ow nd
    go_wp2_with fail
    obtain ⟨pp0, pp1, pp2, -⟩ := hP
    with_reducible refine (HI.out _ _ _ _ _ _ w15 (ownS_rds pp0).1 (ownS_rds pp1).1 (ownS_rds pp2).1).mono ?_
    rintro e w16 ⟨R1, d1, R2, d2, R3, d3, u1, u2, u3, rfl, hS, hb16⟩
    obtain ⟨hS1, hS2, hS3, -⟩ := hS
    have o1 := (ownS_rds hS1).1
    have o2 := (ownS_rds hS2).1
    have o3 := (ownS_rds hS3).1
    clear pp0 pp1 pp2 hS1 hS2 hS3 i0 i1 i2 u1 u2 u3
    have b1416 := below_trans hb15 hb16
    go_upto_region 25 with fail
    refine at_world (fun W => Blk W w16.heap.size 74 [.int .i64 X.Code, .slice R1 X.Cluster.Nodes.length d1, .slice R2 X.Cluster.Mails.length d2, .slice R3 X.Cluster.Sealed.length d3] ∧ Below w16.heap.size w16 W) ⟨blk_alloc w16 [.int .i64 X.Code, .slice R1 X.Cluster.Nodes.length d1, .slice R2 X.Cluster.Mails.length d2, .slice R3 X.Cluster.Sealed.length d3] _, below_alloc (Below.refl _ _) _⟩ ?_
    rintro W17 ⟨t17, b17⟩
    have b1417 := below_trans b1416 b17
    have q17 := q14.below b1417
    have z17 := z14.below b1417
    replace MF1 := OwnS.bel' MF1 b1417
    replace MF2 := OwnS.bel' MF2 b1417
    replace MF3 := OwnS.bel' MF3 b1417
    have b317 := below_trans b314 b1417
    have bw17 := below_trans bw14 b1417
    clear x14 q14 z14
    have t_0 := t17.cell (j := 0) rfl
    have t_1 := t17.cell (j := 1) rfl
    have t_2 := t17.cell (j := 2) rfl
    have t_3 := t17.cell (j := 3) rfl
    have z_0 := z17.cell (j := 0) rfl
    have z_1 := z17.cell (j := 1) rfl
    have z_2 := z17.cell (j := 2) rfl
    have z_3 := z17.cell (j := 3) rfl
    go_wp2_with fail
    clear t_0 t_1 t_2 t_3
    clear z_0 z_1 z_2 z_3
    with_reducible refine (eqClusterResult_c X R1 d1 R2 d2 R3 d3 S1 s1 S2 s2 S3 s3 W17 (o1.below b17) (o2.below b17) (o3.below b17) (r1.below b317) (r2.below b317) (r3.below b317)).mono ?_
    rintro e w18 ⟨rfl, hb18⟩
    have q18 := q17.below hb18
    have bw18 := below_trans bw17 hb18
    replace MF1 := OwnS.bel' MF1 hb18
    replace MF2 := OwnS.bel' MF2 hb18
    replace MF3 := OwnS.bel' MF3 hb18
    clear q17 z17
    have q_0 := q18.cell (j := 0) rfl
    have q_1 := q18.cell (j := 1) rfl
    have q_2 := q18.cell (j := 2) rfl
    have q_3 := q18.cell (j := 3) rfl
    go_wp2_with fail
    clear q_0 q_1 q_2 q_3
    with_reducible refine (heldClusterResult_c X P1 a1 P2 a2 P3 a3 1 w18 (ownS_rds MF1).1 (ownS_rds MF2).1 (ownS_rds MF3).1 (by omega) (by omega)).mono ?_
    intro e w19 h
    obtain ⟨rfl, hb19⟩ : e = .returned (.int .i64 v8) ∧ Below w18.heap.size w18 w19 := ⟨by rw [h.1, hv8.out], h.2⟩
    clear h
    have bw19 := below_trans bw18 hb19
    go_wp2_with fail
    go_ret
    exact ⟨rfl, bw19⟩
end Go.Proofs.YtoohhkmlgmeolaaGreat
