/- The law FnExactClusterText, walked (own work; the law's frame as LeaderOf's). -/
import Derived.Test.YtdjfehjddfbbjaaGreatDoorX4
import Derived.Test.YtdjfehjddfbbjaaGreatDoorG0
import Derived.Test.YtdjfehjddfbbjaaGreatDoorD1
import Derived.Test.YtdjfehjddfbbjaaGreatDoorD2
import Derived.Test.YtdjfehjddfbbjaaGreatDoorD3
set_option linter.unusedVariables false
set_option linter.unusedSimpArgs false
namespace Go.Proofs.YtdjfehjddfbbjaaGreatDoor
open Go Go.RowKit Mk
set_option maxRecDepth 100000 in
set_option maxHeartbeats 4000000 in
theorem eqTextResult_c (e : Int) (s : ByteArray) (w : World) : Calls Tryz.prog 8 #[.agg #[.int .i64 e, .string s], .agg #[.int .i64 e, .string s]] w fun r w' => r = .returned (.bool true) ∧ Below w.heap.size w w' := by
  go_enter Tryz.func8, Tryz.ntmps8
  go_wp2_with fail
  go_ret
  exact ⟨rfl, by repeat (first | (with_reducible assumption) | (with_reducible exact Below.refl _ _) | (with_reducible apply below_alloc) | (with_reducible apply below_drewN) | (with_reducible apply Below.drew) | (with_reducible refine below_set ?_ (by dsimp only; omega) _) | (with_reducible refine below_trans ?_ (by assumption)))⟩
set_option maxRecDepth 100000 in
set_option maxHeartbeats 4000000 in
theorem law_ClusterText (c : SCluster) (A0 : Option Addr) (c0 : Nat) (A1 : Option Addr) (c1 : Nat) (A2 : Option Addr) (c2 : Nat) (w : World) (h0 : RdS kReplica w A0 c0 c.Nodes) (h1 : RdS kMail w A1 c1 c.Mails) (h2 : RdS kEntry w A2 c2 c.Sealed) (htab : Lib.TabIs Tryz.prog w "internal/strconv.uint64pow10" .u64 Lib.pow10Tab) :
    Calls Tryz.prog 3 #[.agg #[.slice A0 c.Nodes.length c0, .slice A1 c.Mails.length c1, .slice A2 c.Sealed.length c2]] w fun e w' => e = .returned (.bool true) ∧ Below w.heap.size w w' := by
  have HS := Lib.hid (sClusterText_c c)
  have HI := Lib.hid (fun A0 c0 A1 c1 A2 c2 (W : World) (hW : Below w.heap.size w W) h0 h1 h2 => iClusterText_c c A0 c0 A1 c1 A2 c2 W (tab_below htab hW) h0 h1 h2)
  generalize (cluX c).1 = E at HS HI
  generalize (cluX c).2 = S at HS HI
  go_enter Tryz.func3, Tryz.ntmps3
  go_wp2_with (first | (go_at_call 4; refine (szCluster_c c _ _ _ _ _ _ _ _ (h0.below (by repeat (first | assumption | exact Below.refl _ _ | (refine below_trans ?_ (by assumption)) | apply below_alloc | apply below_drewN | apply Below.drew))) (h1.below (by repeat (first | assumption | exact Below.refl _ _ | (refine below_trans ?_ (by assumption)) | apply below_alloc | apply below_drewN | apply Below.drew))) (h2.below (by repeat (first | assumption | exact Below.refl _ _ | (refine below_trans ?_ (by assumption)) | apply below_alloc | apply below_drewN | apply Below.drew))) (by omega) (by omega)).mono ?_; rintro e w1 ⟨⟨r, rfl, hr⟩, hb1⟩; have i1 : InCluster w c 26 A0 c0 A1 c1 A2 c2 w1 := (by unfold InCluster; repeat (first | assumption | exact Below.refl _ _ | (refine below_trans ?_ (by assumption)) | apply below_alloc | apply below_drewN | apply Below.drew)); have k1 := i1.seen))
  · go_ret; exact ⟨rfl, i1.below⟩
  · have ht : totCluster c ≤ 1048576 := by unfold Left at hr; omega
    refine (toCluster_c c A0 c0 A1 c1 A2 c2 _ (h0.below i1.below) (h1.below i1.below) (h2.below i1.below) ht).mono ?_
    rintro e w2 ⟨G0, G1, G2, rfl, ⟨fp, nd, ow⟩, hb2⟩
    obtain ⟨g0, g1, g2⟩ := rdCluster ow
    clear ow nd k1
    have i2 := i1.step hb2
    have k2 := i2.seen
    go_wp2_with fail
    refine (HS.out _ _ _ _ _ _ _ g0 g1 g2).mono ?_
    rintro e w3 ⟨rfl, hb3⟩
    clear k2
    have i3 := i2.step hb3
    have k3 := i3.seen
    have b3 := i3.below
    have hsz := i1.size
    simp only [nblk_allocE] at hsz
    have s3 : w.heap.size < w3.heap.size := by have := hb3.size; have := hb2.size; omega
    go_wp2_with fail
    refine (toCluster_c c A0 c0 A1 c1 A2 c2 _ (h0.below (by repeat (first | (with_reducible assumption) | (with_reducible exact Below.refl _ _) | (with_reducible apply below_alloc) | (with_reducible apply below_drewN) | (with_reducible apply Below.drew) | (with_reducible refine below_set ?_ (by dsimp only; omega) _) | (with_reducible refine below_trans ?_ (by assumption))))) (h1.below (by repeat (first | (with_reducible assumption) | (with_reducible exact Below.refl _ _) | (with_reducible apply below_alloc) | (with_reducible apply below_drewN) | (with_reducible apply Below.drew) | (with_reducible refine below_set ?_ (by dsimp only; omega) _) | (with_reducible refine below_trans ?_ (by assumption))))) (h2.below (by repeat (first | (with_reducible assumption) | (with_reducible exact Below.refl _ _) | (with_reducible apply below_alloc) | (with_reducible apply below_drewN) | (with_reducible apply Below.drew) | (with_reducible refine below_set ?_ (by dsimp only; omega) _) | (with_reducible refine below_trans ?_ (by assumption))))) ht).mono ?_
    rintro e w4 ⟨H0, H1, H2, rfl, ⟨fp, nd, ow⟩, hb4⟩
    obtain ⟨j0, j1, j2⟩ := rdCluster ow
    clear ow nd k3
    have i4 := i3.step (below_trans (below_alloc (Below.refl _ _) _) hb4)
    have k4 := i4.seen
    have b4 := i4.below
    have p4 : Blk w4 w3.heap.size 29 [.int .i64 E, .string S] := (blk_alloc w3 [.int .i64 E, .string S] _).below hb4
    have s4 : w3.heap.size < w4.heap.size := by have := hb4.size; simp only [nblk_allocE] at this; omega
    have s4' : w.heap.size < w4.heap.size := by omega
    go_wp2_with fail
    refine (HI.out _ _ _ _ _ _ _ (by repeat (first | (with_reducible assumption) | (with_reducible exact Below.refl _ _) | (with_reducible apply below_alloc) | (with_reducible apply below_drewN) | (with_reducible apply Below.drew) | (with_reducible refine below_set ?_ (by dsimp only; omega) _) | (with_reducible refine below_trans ?_ (by assumption)))) (j0.below (by repeat (first | (with_reducible assumption) | (with_reducible exact Below.refl _ _) | (with_reducible apply below_alloc) | (with_reducible apply below_drewN) | (with_reducible apply Below.drew) | (with_reducible refine below_set ?_ (by dsimp only; omega) _) | (with_reducible refine below_trans ?_ (by assumption))))) (j1.below (by repeat (first | (with_reducible assumption) | (with_reducible exact Below.refl _ _) | (with_reducible apply below_alloc) | (with_reducible apply below_drewN) | (with_reducible apply Below.drew) | (with_reducible refine below_set ?_ (by dsimp only; omega) _) | (with_reducible refine below_trans ?_ (by assumption))))) (j2.below (by repeat (first | (with_reducible assumption) | (with_reducible exact Below.refl _ _) | (with_reducible apply below_alloc) | (with_reducible apply below_drewN) | (with_reducible apply Below.drew) | (with_reducible refine below_set ?_ (by dsimp only; omega) _) | (with_reducible refine below_trans ?_ (by assumption)))))).mono ?_
    rintro e w5 ⟨rfl, hb5⟩
    clear k4
    have b45 : Below w4.heap.size w4 w5 := below_trans (below_alloc (Below.refl _ _) _) hb5
    have i5 := i4.step b45
    have k5 := i5.seen
    have b5 := i5.below
    have p5 := p4.below b45
    have q50 := p5.cell (j := 0) rfl
    have q51 := p5.cell (j := 1) rfl
    have f50 := p5.frozen 0
    have f51 := p5.frozen 1
    have x5 : InCluster w4 c 35 (some ⟨H0, 0, none⟩) c.Nodes.length (some ⟨H1, 0, none⟩) c.Mails.length (some ⟨H2, 0, none⟩) c.Sealed.length w5 := (by unfold InCluster; exact hb5)
    have y5 := x5.seen
    have s5 : w4.heap.size < w5.heap.size := by have := hb5.size; simp only [nblk_allocE] at this; omega
    have s5' : w3.heap.size < w5.heap.size := by omega
    have s5'' : w.heap.size < w5.heap.size := by omega
    go_wp2_with fail
    refine (eqTextResult_c E S _).mono ?_
    rintro e w6 ⟨rfl, hb6⟩
    clear k5 q50 q51 f50 f51 y5
    have b56 : Below w5.heap.size w5 w6 := below_trans (below_alloc (Below.refl _ _) _) hb6
    have i6 := i5.step b56
    have k6 := i6.seen
    have b6 := i6.below
    have x6 := x5.step b56
    have y6 := x6.seen
    go_wp2_with fail
    have b46 : Below w4.heap.size w4 w6 := below_trans b45 b56
    clear b45 b56 i5 x5 p5 p4 i4 i3 i2 i1 hb6 hb5 hb4 hb3 hb2 hb1
    go_region_with (first | (go_at_call 6; refine (toCluster_c c A0 c0 A1 c1 A2 c2 _ (h0.below (by repeat (first | (with_reducible assumption) | (with_reducible exact Below.refl _ _) | (with_reducible apply below_alloc) | (with_reducible apply below_drewN) | (with_reducible apply Below.drew) | (with_reducible refine below_set ?_ (by dsimp only; omega) _) | (with_reducible refine below_trans ?_ (by assumption))))) (h1.below (by repeat (first | (with_reducible assumption) | (with_reducible exact Below.refl _ _) | (with_reducible apply below_alloc) | (with_reducible apply below_drewN) | (with_reducible apply Below.drew) | (with_reducible refine below_set ?_ (by dsimp only; omega) _) | (with_reducible refine below_trans ?_ (by assumption))))) (h2.below (by repeat (first | (with_reducible assumption) | (with_reducible exact Below.refl _ _) | (with_reducible apply below_alloc) | (with_reducible apply below_drewN) | (with_reducible apply Below.drew) | (with_reducible refine below_set ?_ (by dsimp only; omega) _) | (with_reducible refine below_trans ?_ (by assumption))))) ht).mono ?_; rintro e w7 ⟨K0, K1, K2, rfl, ⟨fp, nd, ow⟩, hb7⟩; obtain ⟨l0, l1, l2⟩ := rdCluster ow; have b67 : Below w6.heap.size w6 w7 := (below_trans (Below.refl _ _).drew hb7); have y7 := (x6.step b67).seen; have b47 := below_trans b46 b67) | (go_at_call 9; refine (eqCluster_c c _ _ _ _ _ _ _ _ _ _ _ _ _ (j0.below b47) (j1.below b47) (j2.below b47) l0 l1 l2).mono ?_; rintro e w8 ⟨rfl, hb8⟩; have b8 := below_trans b6 (below_trans b67 hb8)))
    all_goals (go_wp2_with fail)
    all_goals (go_ret; exact ⟨rfl, b8⟩)
end Go.Proofs.YtdjfehjddfbbjaaGreatDoor
