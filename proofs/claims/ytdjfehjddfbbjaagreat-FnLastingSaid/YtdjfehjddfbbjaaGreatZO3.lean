/- What a node tells of itself: the program's tell (written by gO3.py, own work). -/
import Derived.Test.YtdjfehjddfbbjaaGreatZO2
set_option linter.unusedVariables false
set_option linter.unusedSimpArgs false
namespace Go.Proofs.YtdjfehjddfbbjaaGreat
open Go Go.RowKit Mk
def TellBox (n : SReplica) (w1 : World) (s : Value) (W : World) : Prop := ∃ g A13 c13, s = .pointer (some ⟨g, 0, none⟩) ∧ Blk W g 51 [.int .i64 4, .int .i64 n.Id, .int .i64 (n.View % n.Size), .int .i64 n.View, .int .i64 0, .bool false, .int .i64 0, .int .i64 0, .int .i64 0, .int .i64 0, .int .i64 0, .int .i64 0, .int .i64 0, .slice A13 0 c13, .int .i64 0] ∧ w1.heap.size ≤ g ∧ Below w1.heap.size w1 W
theorem tell_late (n : SReplica) {w1 wS : World} (A13 : Option Addr) (c13 : Nat) (hb : Below w1.heap.size w1 wS) : TellBox n w1 (.pointer (some ⟨wS.heap.size, 0, none⟩)) (wS.alloc (.cells #[.int .i64 (mailK n.Id n.View 4 (n.View % n.Size)).Kind, .int .i64 (mailK n.Id n.View 4 (n.View % n.Size)).From, .int .i64 (mailK n.Id n.View 4 (n.View % n.Size)).To, .int .i64 (mailK n.Id n.View 4 (n.View % n.Size)).View, .int .i64 (mailK n.Id n.View 4 (n.View % n.Size)).At, .bool (mailK n.Id n.View 4 (n.View % n.Size)).Has, .int .i64 (mailK n.Id n.View 4 (n.View % n.Size)).Entry.Client, .int .i64 (mailK n.Id n.View 4 (n.View % n.Size)).Entry.Seq, .int .i64 (mailK n.Id n.View 4 (n.View % n.Size)).Entry.Op.Kind, .int .i64 (mailK n.Id n.View 4 (n.View % n.Size)).Entry.Op.Vol, .int .i64 (mailK n.Id n.View 4 (n.View % n.Size)).Entry.Op.At, .int .i64 (mailK n.Id n.View 4 (n.View % n.Size)).Entry.Op.Value, .int .i64 (mailK n.Id n.View 4 (n.View % n.Size)).Last, .slice A13 (mailK n.Id n.View 4 (n.View % n.Size)).Log.length c13, .int .i64 (mailK n.Id n.View 4 (n.View % n.Size)).Commit] 51)) :=
  ⟨wS.heap.size, A13, c13, rfl, blk_alloc wS _ _, hb.size, below_alloc hb _⟩
theorem tell_early (n : SReplica) {w1 wS : World} {g : Nat} {v0 v1 v2 v3 v4 v5 v6 v7 v8 v9 v10 v11 v12 v13 v14 : Value} (A13 : Option Addr) (c13 : Nat) (kk : Blk wS g 51 [v0, v1, v2, v3, v4, v5, v6, v7, v8, v9, v10, v11, v12, v13, v14]) (hg : w1.heap.size ≤ g) (hb : Below w1.heap.size w1 wS) : TellBox n w1 (.pointer (some ⟨g, 0, none⟩)) (((((((((((((((wS.setCell ⟨g, 0, none⟩ (.int .i64 (mailK n.Id n.View 4 (n.View % n.Size)).Kind)).setCell ⟨g, 1, none⟩ (.int .i64 (mailK n.Id n.View 4 (n.View % n.Size)).From)).setCell ⟨g, 2, none⟩ (.int .i64 (mailK n.Id n.View 4 (n.View % n.Size)).To)).setCell ⟨g, 3, none⟩ (.int .i64 (mailK n.Id n.View 4 (n.View % n.Size)).View)).setCell ⟨g, 4, none⟩ (.int .i64 (mailK n.Id n.View 4 (n.View % n.Size)).At)).setCell ⟨g, 5, none⟩ (.bool (mailK n.Id n.View 4 (n.View % n.Size)).Has)).setCell ⟨g, 6, none⟩ (.int .i64 (mailK n.Id n.View 4 (n.View % n.Size)).Entry.Client)).setCell ⟨g, 7, none⟩ (.int .i64 (mailK n.Id n.View 4 (n.View % n.Size)).Entry.Seq)).setCell ⟨g, 8, none⟩ (.int .i64 (mailK n.Id n.View 4 (n.View % n.Size)).Entry.Op.Kind)).setCell ⟨g, 9, none⟩ (.int .i64 (mailK n.Id n.View 4 (n.View % n.Size)).Entry.Op.Vol)).setCell ⟨g, 10, none⟩ (.int .i64 (mailK n.Id n.View 4 (n.View % n.Size)).Entry.Op.At)).setCell ⟨g, 11, none⟩ (.int .i64 (mailK n.Id n.View 4 (n.View % n.Size)).Entry.Op.Value)).setCell ⟨g, 12, none⟩ (.int .i64 (mailK n.Id n.View 4 (n.View % n.Size)).Last)).setCell ⟨g, 13, none⟩ (.slice A13 (mailK n.Id n.View 4 (n.View % n.Size)).Log.length c13)).setCell ⟨g, 14, none⟩ (.int .i64 (mailK n.Id n.View 4 (n.View % n.Size)).Commit)) :=
  have T : Turn [g] wS (((((((((((((((wS.setCell ⟨g, 0, none⟩ (.int .i64 (mailK n.Id n.View 4 (n.View % n.Size)).Kind)).setCell ⟨g, 1, none⟩ (.int .i64 (mailK n.Id n.View 4 (n.View % n.Size)).From)).setCell ⟨g, 2, none⟩ (.int .i64 (mailK n.Id n.View 4 (n.View % n.Size)).To)).setCell ⟨g, 3, none⟩ (.int .i64 (mailK n.Id n.View 4 (n.View % n.Size)).View)).setCell ⟨g, 4, none⟩ (.int .i64 (mailK n.Id n.View 4 (n.View % n.Size)).At)).setCell ⟨g, 5, none⟩ (.bool (mailK n.Id n.View 4 (n.View % n.Size)).Has)).setCell ⟨g, 6, none⟩ (.int .i64 (mailK n.Id n.View 4 (n.View % n.Size)).Entry.Client)).setCell ⟨g, 7, none⟩ (.int .i64 (mailK n.Id n.View 4 (n.View % n.Size)).Entry.Seq)).setCell ⟨g, 8, none⟩ (.int .i64 (mailK n.Id n.View 4 (n.View % n.Size)).Entry.Op.Kind)).setCell ⟨g, 9, none⟩ (.int .i64 (mailK n.Id n.View 4 (n.View % n.Size)).Entry.Op.Vol)).setCell ⟨g, 10, none⟩ (.int .i64 (mailK n.Id n.View 4 (n.View % n.Size)).Entry.Op.At)).setCell ⟨g, 11, none⟩ (.int .i64 (mailK n.Id n.View 4 (n.View % n.Size)).Entry.Op.Value)).setCell ⟨g, 12, none⟩ (.int .i64 (mailK n.Id n.View 4 (n.View % n.Size)).Last)).setCell ⟨g, 13, none⟩ (.slice A13 (mailK n.Id n.View 4 (n.View % n.Size)).Log.length c13)).setCell ⟨g, 14, none⟩ (.int .i64 (mailK n.Id n.View 4 (n.View % n.Size)).Commit)) := ((((((((((((((((Turn.refl [g] wS).set (by simp) _).set (by simp) _).set (by simp) _).set (by simp) _).set (by simp) _).set (by simp) _).set (by simp) _).set (by simp) _).set (by simp) _).set (by simp) _).set (by simp) _).set (by simp) _).set (by simp) _).set (by simp) _).set (by simp) _)
  ⟨g, A13, c13, rfl, (((((((((((((((kk.set0 0 _).set0 1 _).set0 2 _).set0 3 _).set0 4 _).set0 5 _).set0 6 _).set0 7 _).set0 8 _).set0 9 _).set0 10 _).set0 11 _).set0 12 _).set0 13 _).set0 14 _), hg, hb.trans (T.below (B := w1.heap.size) (by intro b h; simp at h; omega) hb.size)⟩
set_option maxRecDepth 100000 in
set_option maxHeartbeats 4000000 in
theorem tell_c (n : SReplica) (p : Addr) (w : World) (h : At kReplica w p n) (h0 : 0 ≤ n.View) (h1 : 1 ≤ n.Size) (h2 : n.View ≤ 200) (hln : n.Log.length ≤ 1000) :
    Calls Tryz.prog 95 #[.pointer (some p)] w fun r w' => LaidMails (tellL n) w r w' := by
  have HP := Lib.hid (isPrimary_c n p w h h0 h1 h2)
  obtain ⟨A5, c5, A7, c7, A8, c8, A9, c9, f0, f1, f2, f3, f4, f5, f6, f7, f8, f9, h5, h7, h8, h9⟩ := atReplica h
  clear f3 f7 f8 f9 h7 h8 h9 h
  cases q : isPrim n with
  | true =>
    rw [q] at HP
    go_enter Tryz.func95, Tryz.ntmps95
    go_wp2_with fail
    refine HP.out.mono ?_
    rintro e w1 ⟨rfl, b1⟩
    go_wp2_with fail
    go_ret
    exact ⟨none, 0, [], by simp [tellL, q], by simpa [tellL, q] using ownS_nil _ _ _, List.nodup_nil, b1⟩
  | false =>
    rw [q] at HP
    go_enter Tryz.func95, Tryz.ntmps95
    go_wp2_with fail
    refine HP.out.mono ?_
    rintro e w1 ⟨rfl, b1⟩
    replace f0 := cell_below b1 f0
    replace f1 := cell_below b1 f1
    replace f2 := cell_below b1 f2
    replace f4 := cell_below b1 f4
    replace f5 := cell_below b1 f5
    replace f6 := cell_below b1 f6
    replace h5 := h5.below b1
    have l0 := World.block_lt_of_cell? _ _ f0
    have hne : p.block ≠ w1.heap.size := by omega
    have bb := b1.size
    clear HP
    go_upto_region 3 with fail
    go_cut [3] (fun s W => TellBox n w1 s W)
    case first =>
      go_region_held3 (fun W => W.cell? ⟨p.block, p.off + 1, none⟩ = some (.int .i64 n.Size) ∧ W.cell? ⟨p.block, p.off + 2, none⟩ = some (.int .i64 n.View)) (first | (with_reducible exact ⟨f1, f2⟩) | (with_reducible exact ⟨g1, g2⟩) | (with_reducible exact ⟨cell_below (show Below w1.heap.size w1 _ by repeat (first | (with_reducible assumption) | (with_reducible exact Below.refl _ _) | (with_reducible apply below_alloc) | (with_reducible apply below_drewN) | (with_reducible apply Below.drew) | (with_reducible refine below_set ?_ (by dsimp only; omega) _) | (with_reducible refine below_trans ?_ (by assumption)))) f1, cell_below (show Below w1.heap.size w1 _ by repeat (first | (with_reducible assumption) | (with_reducible exact Below.refl _ _) | (with_reducible apply below_alloc) | (with_reducible apply below_drewN) | (with_reducible apply Below.drew) | (with_reducible refine below_set ?_ (by dsimp only; omega) _) | (with_reducible refine below_trans ?_ (by assumption)))) f2⟩) | go_keep) (first | (go_at_call 134; refine (primary_c _ _ _ h0 h1 h2).mono ?_; rintro e wp ⟨rfl, rfl⟩) | (go_at_call 133; refine (mail_c _ p n.Id n.View 4 (n.View % n.Size) (cell_below (show Below w1.heap.size w1 _ by repeat (first | (with_reducible assumption) | (with_reducible exact Below.refl _ _) | (with_reducible apply below_alloc) | (with_reducible apply below_drewN) | (with_reducible apply Below.drew) | (with_reducible refine below_set ?_ (by dsimp only; omega) _) | (with_reducible refine below_trans ?_ (by assumption)))) f0) (cell_below (show Below w1.heap.size w1 _ by repeat (first | (with_reducible assumption) | (with_reducible exact Below.refl _ _) | (with_reducible apply below_alloc) | (with_reducible apply below_drewN) | (with_reducible apply Below.drew) | (with_reducible refine below_set ?_ (by dsimp only; omega) _) | (with_reducible refine below_trans ?_ (by assumption)))) f2)).mono ?_; rintro e w2 ⟨A13, c13, fm, rfl, om, nm, hb2⟩; have g1 := cell_below (show Below w1.heap.size w1 w2 by repeat (first | (with_reducible assumption) | (with_reducible exact Below.refl _ _) | (with_reducible apply below_alloc) | (with_reducible apply below_drewN) | (with_reducible apply Below.drew) | (with_reducible refine below_set ?_ (by dsimp only; omega) _) | (with_reducible refine below_trans ?_ (by assumption)))) f1; have g2 := cell_below (show Below w1.heap.size w1 w2 by repeat (first | (with_reducible assumption) | (with_reducible exact Below.refl _ _) | (with_reducible apply below_alloc) | (with_reducible apply below_drewN) | (with_reducible apply Below.drew) | (with_reducible refine below_set ?_ (by dsimp only; omega) _) | (with_reducible refine below_trans ?_ (by assumption)))) f2; (first | (have kk := (blk_alloc_dr _ [.int .i64 0, .int .i64 0, .int .i64 0, .int .i64 0, .int .i64 0, .bool false, .int .i64 0, .int .i64 0, .int .i64 0, .int .i64 0, .int .i64 0, .int .i64 0, .int .i64 0, .slice none 0 0, .int .i64 0] 51).below hb2) | (have kk := kk.below hb2) | skip); (first | (have kc0 := kk.cell (j := 0) rfl; have kf0 := kk.frozen 0; have kc1 := kk.cell (j := 1) rfl; have kf1 := kk.frozen 1; have kc2 := kk.cell (j := 2) rfl; have kf2 := kk.frozen 2; have kc3 := kk.cell (j := 3) rfl; have kf3 := kk.frozen 3; have kc4 := kk.cell (j := 4) rfl; have kf4 := kk.frozen 4; have kc5 := kk.cell (j := 5) rfl; have kf5 := kk.frozen 5; have kc6 := kk.cell (j := 6) rfl; have kf6 := kk.frozen 6; have kc7 := kk.cell (j := 7) rfl; have kf7 := kk.frozen 7; have kc8 := kk.cell (j := 8) rfl; have kf8 := kk.frozen 8; have kc9 := kk.cell (j := 9) rfl; have kf9 := kk.frozen 9; have kc10 := kk.cell (j := 10) rfl; have kf10 := kk.frozen 10; have kc11 := kk.cell (j := 11) rfl; have kf11 := kk.frozen 11; have kc12 := kk.cell (j := 12) rfl; have kf12 := kk.frozen 12; have kc13 := kk.cell (j := 13) rfl; have kf13 := kk.frozen 13; have kc14 := kk.cell (j := 14) rfl; have kf14 := kk.frozen 14) | skip)))
      all_goals (go_wp2_with fail)
      all_goals (go_meet)
      all_goals
        first
          | (with_reducible refine tell_late n A13 c13 ?_)
            exact (show Below w1.heap.size w1 w2 by repeat (first | (with_reducible assumption) | (with_reducible exact Below.refl _ _) | (with_reducible apply below_alloc) | (with_reducible apply below_drewN) | (with_reducible apply Below.drew) | (with_reducible refine below_set ?_ (by dsimp only; omega) _) | (with_reducible refine below_trans ?_ (by assumption))))
          | (with_reducible refine tell_early n A13 c13 kk ?_ ?_)
            · exact Nat.le_refl _
            · exact (show Below w1.heap.size w1 w2 by repeat (first | (with_reducible assumption) | (with_reducible exact Below.refl _ _) | (with_reducible apply below_alloc) | (with_reducible apply below_drewN) | (with_reducible apply Below.drew) | (with_reducible refine below_set ?_ (by dsimp only; omega) _) | (with_reducible refine below_trans ?_ (by assumption))))
    obtain ⟨g, A13, c13, rfl, mB, hg, bc⟩ := hcut
    obtain ⟨W3, hW3⟩ : ∃ W3, W3 = wc := ⟨_, rfl⟩
    subst hW3
    have g4 := cell_below bc f4
    have u12 := mB.cell (j := 12) rfl
    have z12 := mB.frozen 12
    go_upto_region 5 with fail
    have mB1 := mB.set0 12 (.int .i64 n.Last)
    simp only [List.set_cons_zero, List.set_cons_succ] at mB1
    refine at_world (fun W => Blk W g 51 [.int .i64 4, .int .i64 n.Id, .int .i64 (n.View % n.Size), .int .i64 n.View, .int .i64 0, .bool false, .int .i64 0, .int .i64 0, .int .i64 0, .int .i64 0, .int .i64 0, .int .i64 0, .int .i64 n.Last, .slice A13 0 c13, .int .i64 0] ∧ Turn [g] W3 W) ⟨mB1, (Turn.refl _ _).set (by simp) _⟩ ?_
    rintro W4 ⟨nB, t4⟩
    clear mB mB1 u12 z12 g4
    have s4 := t4.size
    have ng : ∀ b ∈ [g], w1.heap.size ≤ b := by intro b hb; simp at hb; omega
    have bc4 : Below w1.heap.size w1 W4 := bc.trans (t4.below (B := w1.heap.size) ng (by have := bc.size; omega))
    have g5 := cell_below bc4 f5
    go_wp2_with fail
    refine (cloneEntry_c n.Log A5 c5 W4 (h5.below bc4) (by omega)).mono ?_
    rintro e w5 ⟨B5, d5, fl, rfl, ol, nl, hb5⟩
    have il := ol.in
    have bc5 := below_trans bc4 hb5
    have nB5 := nB.below hb5
    have lg := nB.lt
    have u13 := nB5.cell (j := 13) rfl
    have z13 := nB5.frozen 13
    clear g5
    go_upto_region 6 with fail
    have mB2 := nB5.set0 13 (.slice B5 n.Log.length d5)
    simp only [List.set_cons_zero, List.set_cons_succ] at mB2
    refine at_world (fun W => Blk W g 51 [.int .i64 4, .int .i64 n.Id, .int .i64 (n.View % n.Size), .int .i64 n.View, .int .i64 0, .bool false, .int .i64 0, .int .i64 0, .int .i64 0, .int .i64 0, .int .i64 0, .int .i64 0, .int .i64 n.Last, .slice B5 n.Log.length d5, .int .i64 0] ∧ Turn [g] w5 W) ⟨mB2, (Turn.refl _ _).set (by simp) _⟩ ?_
    rintro W6 ⟨nB6, t6⟩
    clear nB nB5 mB2 u13 z13
    have ol6 := ol.turn t6 (fun b hb hm => by have := il b hb; simp at hm; omega)
    have s5 := hb5.size
    have bc6 : Below w1.heap.size w1 W6 := bc5.trans (t6.below (B := w1.heap.size) ng (by have := bc5.size; omega))
    have g6 := cell_below bc6 f6
    have u14 := nB6.cell (j := 14) rfl
    have z14 := nB6.frozen 14
    go_upto_region 7 with fail
    have mB3 := nB6.set0 14 (.int .i64 n.Commit)
    simp only [List.set_cons_zero, List.set_cons_succ] at mB3
    refine at_world (fun W => Blk W g 51 [.int .i64 4, .int .i64 n.Id, .int .i64 (n.View % n.Size), .int .i64 n.View, .int .i64 0, .bool false, .int .i64 0, .int .i64 0, .int .i64 0, .int .i64 0, .int .i64 0, .int .i64 0, .int .i64 n.Last, .slice B5 n.Log.length d5, .int .i64 n.Commit] ∧ Turn [g] W6 W) ⟨mB3, (Turn.refl _ _).set (by simp) _⟩ ?_
    rintro W7 ⟨nB7, t7⟩
    clear nB6 mB3 u14 z14 g6
    have s6 := t6.size
    have ol7 := ol6.turn t7 (fun b hb hm => by have := il b hb; simp at hm; omega)
    have bc7 : Below w1.heap.size w1 W7 := bc6.trans (t7.below (B := w1.heap.size) ng (by have := bc6.size; omega))
    have u0 := nB7.cell (j := 0) rfl
    have u1 := nB7.cell (j := 1) rfl
    have u2 := nB7.cell (j := 2) rfl
    have u3 := nB7.cell (j := 3) rfl
    have u4 := nB7.cell (j := 4) rfl
    have u5 := nB7.cell (j := 5) rfl
    have u6 := nB7.cell (j := 6) rfl
    have u7 := nB7.cell (j := 7) rfl
    have u8 := nB7.cell (j := 8) rfl
    have u9 := nB7.cell (j := 9) rfl
    have u10 := nB7.cell (j := 10) rfl
    have u11 := nB7.cell (j := 11) rfl
    have u12 := nB7.cell (j := 12) rfl
    have u13 := nB7.cell (j := 13) rfl
    have u14 := nB7.cell (j := 14) rfl
    have s7 := t7.size
    go_wp2_with fail
    go_ret
    have hq : tellL n = [tellM n] := by simp [tellL, q]
    have oM : kMail.Own w.heap.size (W7.alloc (.cells #[.int .i64 4, .int .i64 n.Id, .int .i64 (n.View % n.Size), .int .i64 n.View, .int .i64 0, .bool false, .int .i64 0, .int .i64 0, .int .i64 0, .int .i64 0, .int .i64 0, .int .i64 0, .int .i64 n.Last, .slice B5 n.Log.length d5, .int .i64 n.Commit] 51)) fl [.int .i64 4, .int .i64 n.Id, .int .i64 (n.View % n.Size), .int .i64 n.View, .int .i64 0, .bool false, .int .i64 0, .int .i64 0, .int .i64 0, .int .i64 0, .int .i64 0, .int .i64 0, .int .i64 n.Last, .slice B5 n.Log.length d5, .int .i64 n.Commit] (tellM n) := kMail_ownmk (tellM n) (h13 := (OwnS.bel' ol7 (below_alloc (Below.refl _ _) _)).lift (fun b hb => by have := (il b hb).1; have := bc4.size; omega))
    refine ⟨some ⟨W7.heap.size, 0, none⟩, 1, W7.heap.size :: fl, by simp [hq], ?_, List.nodup_cons.2 ⟨fun hm => by have := (il _ hm).2; omega, nl⟩, below_trans b1 (below_alloc bc7 _)⟩
    rw [hq]
    exact ownS_blk1 (blk_alloc W7 [.int .i64 4, .int .i64 n.Id, .int .i64 (n.View % n.Size), .int .i64 n.View, .int .i64 0, .bool false, .int .i64 0, .int .i64 0, .int .i64 0, .int .i64 0, .int .i64 0, .int .i64 0, .int .i64 n.Last, .slice B5 n.Log.length d5, .int .i64 n.Commit] 51) (OwnL.single oM) (by have := bc7.size; omega) (by simp [maxLen])
end Go.Proofs.YtdjfehjddfbbjaaGreat
