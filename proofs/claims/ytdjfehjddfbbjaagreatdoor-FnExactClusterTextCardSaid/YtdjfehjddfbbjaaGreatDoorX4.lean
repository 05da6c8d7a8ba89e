/- ClusterText: the tops of both sides (own work). -/
import Derived.Test.YtdjfehjddfbbjaaGreatDoorX2
import Derived.Test.YtdjfehjddfbbjaaGreatDoorX3
set_option linter.unusedVariables false
set_option linter.unusedSimpArgs false
namespace Go.Proofs.YtdjfehjddfbbjaaGreatDoor
open Go Go.RowKit Mk
noncomputable def cluX (c : SCluster) : Int × ByteArray := if clusF c = 0 then (0, cluB c) else (clusF c, ⟨#[]⟩)
set_option maxRecDepth 100000 in
set_option maxHeartbeats 4000000 in
theorem sClusterText_bad (c : SCluster) (A0 : Option Addr) (c0 : Nat) (A1 : Option Addr) (c1 : Nat) (A2 : Option Addr) (c2 : Nat) (w : World) (h0 : RdS kReplica w A0 c0 c.Nodes) (h1 : RdS kMail w A1 c1 c.Mails) (h2 : RdS kEntry w A2 c2 c.Sealed) (q : ¬ clusF c = 0) :
    Calls Tryz.prog 5 #[.agg #[.slice A0 c.Nodes.length c0, .slice A1 c.Mails.length c1, .slice A2 c.Sealed.length c2]] w fun r w' => r = .returned (.agg #[.int .i64 (clusF c), .string ⟨#[]⟩]) ∧ Below w.heap.size w w' := by
  have hat := boxCluster w c 35 h0 h1 h2
  have HF := Lib.hid (fun (W : World) (hb : Below (w.alloc (.cells #[.slice A0 c.Nodes.length c0, .slice A1 c.Mails.length c1, .slice A2 c.Sealed.length c2] 35)).heap.size (w.alloc (.cells #[.slice A0 c.Nodes.length c0, .slice A1 c.Mails.length c1, .slice A2 c.Sealed.length c2] 35)) W) => l11Fault_c c ⟨w.heap.size, 0, none⟩ W (hat.below hb))
  have he : ((clusF c) != 0) = true := by simpa using q
  generalize clusF c = cd at HF he
  clear h0 h1 h2 q hat
  go_enter Tryz.func5, Tryz.ntmps5
  go_wp2_with fail
  refine (HF.out _ (by repeat (first | (with_reducible assumption) | (with_reducible exact Below.refl _ _) | (with_reducible apply below_alloc) | (with_reducible apply below_drewN) | (with_reducible apply Below.drew) | (with_reducible refine below_set ?_ (by dsimp only; omega) _) | (with_reducible refine below_trans ?_ (by assumption))))).mono ?_
  rintro e w1 ⟨rfl, hb1⟩
  have zB := (blk_alloc1 w (.cells #[.slice A0 c.Nodes.length c0, .slice A1 c.Mails.length c1, .slice A2 c.Sealed.length c2] 35) [.int .i64 0, .string ⟨#[]⟩] 29).below hb1
  have lz := zB.lt
  have r0 := zB.cell (j := 0) rfl
  have y0 := zB.frozen 0
  have r1 := zB.cell (j := 1) rfl
  have y1 := zB.frozen 1
  have bw : Below w.heap.size w w1 := by repeat (first | (with_reducible assumption) | (with_reducible exact Below.refl _ _) | (with_reducible apply below_alloc) | (with_reducible apply below_drewN) | (with_reducible apply Below.drew) | (with_reducible refine below_set ?_ (by dsimp only; omega) _) | (with_reducible refine below_trans ?_ (by assumption)))
  clear zB hb1 HF
  go_wp2_with fail
  exact bodyPost_ret (v := .agg #[.int .i64 cd, .string ⟨#[]⟩]) (by simp [results, Tryz.results5, go_sem, r0, r1]) rfl ⟨rfl, by repeat (first | (with_reducible assumption) | (with_reducible exact Below.refl _ _) | (with_reducible apply below_alloc) | (with_reducible apply below_drewN) | (with_reducible apply Below.drew) | (with_reducible refine below_set ?_ (by dsimp only; omega) _) | (with_reducible refine below_trans ?_ (by assumption)))⟩
set_option maxRecDepth 100000 in
set_option maxHeartbeats 4000000 in
theorem sClusterText_good (c : SCluster) (A0 : Option Addr) (c0 : Nat) (A1 : Option Addr) (c1 : Nat) (A2 : Option Addr) (c2 : Nat) (w : World) (h0 : RdS kReplica w A0 c0 c.Nodes) (h1 : RdS kMail w A1 c1 c.Mails) (h2 : RdS kEntry w A2 c2 c.Sealed) (q : clusF c = 0) :
    Calls Tryz.prog 5 #[.agg #[.slice A0 c.Nodes.length c0, .slice A1 c.Mails.length c1, .slice A2 c.Sealed.length c2]] w fun r w' => r = .returned (.agg #[.int .i64 0, .string (cluB c)]) ∧ Below w.heap.size w w' := by
  have hat := boxCluster w c 35 h0 h1 h2
  have HF := Lib.hid (fun (W : World) (hb : Below (w.alloc (.cells #[.slice A0 c.Nodes.length c0, .slice A1 c.Mails.length c1, .slice A2 c.Sealed.length c2] 35)).heap.size (w.alloc (.cells #[.slice A0 c.Nodes.length c0, .slice A1 c.Mails.length c1, .slice A2 c.Sealed.length c2] 35)) W) => l11Fault_c c ⟨w.heap.size, 0, none⟩ W (hat.below hb))
  have HT := Lib.hid (fun (W : World) (hb : Below (w.alloc (.cells #[.slice A0 c.Nodes.length c0, .slice A1 c.Mails.length c1, .slice A2 c.Sealed.length c2] 35)).heap.size (w.alloc (.cells #[.slice A0 c.Nodes.length c0, .slice A1 c.Mails.length c1, .slice A2 c.Sealed.length c2] 35)) W) => l16Cluster_c c ⟨w.heap.size, 0, none⟩ W (hat.below hb) q)
  rw [q] at HF
  generalize cluB c = tx at HT
  clear h0 h1 h2 q hat
  go_enter Tryz.func5, Tryz.ntmps5
  go_wp2_with fail
  refine (HF.out _ (by repeat (first | (with_reducible assumption) | (with_reducible exact Below.refl _ _) | (with_reducible apply below_alloc) | (with_reducible apply below_drewN) | (with_reducible apply Below.drew) | (with_reducible refine below_set ?_ (by dsimp only; omega) _) | (with_reducible refine below_trans ?_ (by assumption))))).mono ?_
  rintro e w1 ⟨rfl, hb1⟩
  have zB := (blk_alloc1 w (.cells #[.slice A0 c.Nodes.length c0, .slice A1 c.Mails.length c1, .slice A2 c.Sealed.length c2] 35) [.int .i64 0, .string ⟨#[]⟩] 29).below hb1
  go_wp2_with fail
  refine (HT.out _ (by repeat (first | (with_reducible assumption) | (with_reducible exact Below.refl _ _) | (with_reducible apply below_alloc) | (with_reducible apply below_drewN) | (with_reducible apply Below.drew) | (with_reducible refine below_set ?_ (by dsimp only; omega) _) | (with_reducible refine below_trans ?_ (by assumption))))).mono ?_
  rintro e w2 ⟨rfl, hb2⟩
  replace zB := zB.below hb2
  have lz := zB.lt
  have r0 := zB.cell (j := 0) rfl
  have y0 := zB.frozen 0
  have r1 := zB.cell (j := 1) rfl
  have y1 := zB.frozen 1
  have bw : Below w.heap.size w w2 := by repeat (first | (with_reducible assumption) | (with_reducible exact Below.refl _ _) | (with_reducible apply below_alloc) | (with_reducible apply below_drewN) | (with_reducible apply Below.drew) | (with_reducible refine below_set ?_ (by dsimp only; omega) _) | (with_reducible refine below_trans ?_ (by assumption)))
  clear zB hb1 hb2 HF HT
  go_wp2_with fail
  exact bodyPost_ret (v := .agg #[.int .i64 0, .string tx]) (by simp [results, Tryz.results5, go_sem, r0, r1]) rfl ⟨rfl, by repeat (first | (with_reducible assumption) | (with_reducible exact Below.refl _ _) | (with_reducible apply below_alloc) | (with_reducible apply below_drewN) | (with_reducible apply Below.drew) | (with_reducible refine below_set ?_ (by dsimp only; omega) _) | (with_reducible refine below_trans ?_ (by assumption)))⟩
set_option maxRecDepth 100000 in
set_option maxHeartbeats 4000000 in
theorem iClusterText_bad (c : SCluster) (A0 : Option Addr) (c0 : Nat) (A1 : Option Addr) (c1 : Nat) (A2 : Option Addr) (c2 : Nat) (w : World) (h0 : RdS kReplica w A0 c0 c.Nodes) (h1 : RdS kMail w A1 c1 c.Mails) (h2 : RdS kEntry w A2 c2 c.Sealed) (q : ¬ clusF c = 0) :
    Calls Tryz.prog 7 #[.agg #[.slice A0 c.Nodes.length c0, .slice A1 c.Mails.length c1, .slice A2 c.Sealed.length c2]] w fun r w' => r = .returned (.agg #[.int .i64 (clusF c), .string ⟨#[]⟩]) ∧ Below w.heap.size w w' := by
  have HF := Lib.hid (fun (W : World) (hb : Below w.heap.size w W) => clusterFault_c c A0 c0 A1 c1 A2 c2 W (h0.below hb) (h1.below hb) (h2.below hb))
  have he : ((clusF c) != 0) = true := by simpa using q
  generalize clusF c = cd at HF he
  clear h0 h1 h2 q
  go_enter Tryz.func7, Tryz.ntmps7
  go_wp2_with fail
  refine (HF.out _ (by repeat (first | (with_reducible assumption) | (with_reducible exact Below.refl _ _) | (with_reducible apply below_alloc) | (with_reducible apply below_drewN) | (with_reducible apply Below.drew) | (with_reducible refine below_set ?_ (by dsimp only; omega) _) | (with_reducible refine below_trans ?_ (by assumption))))).mono ?_
  rintro e w1 ⟨rfl, hb1⟩
  have zB := (blk_alloc1 w (.cells #[.slice A0 c.Nodes.length c0, .slice A1 c.Mails.length c1, .slice A2 c.Sealed.length c2] 35) [.int .i64 0, .string ⟨#[]⟩] 29).below hb1
  have lz := zB.lt
  have r0 := zB.cell (j := 0) rfl
  have y0 := zB.frozen 0
  have r1 := zB.cell (j := 1) rfl
  have y1 := zB.frozen 1
  have bw : Below w.heap.size w w1 := by repeat (first | (with_reducible assumption) | (with_reducible exact Below.refl _ _) | (with_reducible apply below_alloc) | (with_reducible apply below_drewN) | (with_reducible apply Below.drew) | (with_reducible refine below_set ?_ (by dsimp only; omega) _) | (with_reducible refine below_trans ?_ (by assumption)))
  clear zB hb1 HF
  go_wp2_with fail
  exact bodyPost_ret (v := .agg #[.int .i64 cd, .string ⟨#[]⟩]) (by simp [results, Tryz.results7, go_sem, r0, r1]) rfl ⟨rfl, by repeat (first | (with_reducible assumption) | (with_reducible exact Below.refl _ _) | (with_reducible apply below_alloc) | (with_reducible apply below_drewN) | (with_reducible apply Below.drew) | (with_reducible refine below_set ?_ (by dsimp only; omega) _) | (with_reducible refine below_trans ?_ (by assumption)))⟩
set_option maxRecDepth 100000 in
set_option maxHeartbeats 4000000 in
theorem iClusterText_good (c : SCluster) (A0 : Option Addr) (c0 : Nat) (A1 : Option Addr) (c1 : Nat) (A2 : Option Addr) (c2 : Nat) (w : World) (h0 : RdS kReplica w A0 c0 c.Nodes) (h1 : RdS kMail w A1 c1 c.Mails) (h2 : RdS kEntry w A2 c2 c.Sealed) (q : clusF c = 0) (htab : Lib.TabIs Tryz.prog w "internal/strconv.uint64pow10" .u64 Lib.pow10Tab) :
    Calls Tryz.prog 7 #[.agg #[.slice A0 c.Nodes.length c0, .slice A1 c.Mails.length c1, .slice A2 c.Sealed.length c2]] w fun r w' => r = .returned (.agg #[.int .i64 0, .string (cluB c)]) ∧ Below w.heap.size w w' := by
  have HF := Lib.hid (fun (W : World) (hb : Below w.heap.size w W) => clusterFault_c c A0 c0 A1 c1 A2 c2 W (h0.below hb) (h1.below hb) (h2.below hb))
  have HT := Lib.hid (fun (W : World) (hb : Below w.heap.size w W) => clusterText_c c A0 c0 A1 c1 A2 c2 W (h0.below hb) (h1.below hb) (h2.below hb) q (tab_below htab hb))
  rw [q] at HF
  generalize cluB c = tx at HT
  clear h0 h1 h2 q
  go_enter Tryz.func7, Tryz.ntmps7
  go_wp2_with fail
  refine (HF.out _ (by repeat (first | (with_reducible assumption) | (with_reducible exact Below.refl _ _) | (with_reducible apply below_alloc) | (with_reducible apply below_drewN) | (with_reducible apply Below.drew) | (with_reducible refine below_set ?_ (by dsimp only; omega) _) | (with_reducible refine below_trans ?_ (by assumption))))).mono ?_
  rintro e w1 ⟨rfl, hb1⟩
  have xB := (blk_alloc w [.slice A0 c.Nodes.length c0, .slice A1 c.Mails.length c1, .slice A2 c.Sealed.length c2] 35).below (below_trans (below_alloc (Below.refl _ _) (.cells #[.int .i64 0, .string ⟨#[]⟩] 29)) hb1)
  have zB := (blk_alloc1 w (.cells #[.slice A0 c.Nodes.length c0, .slice A1 c.Mails.length c1, .slice A2 c.Sealed.length c2] 35) [.int .i64 0, .string ⟨#[]⟩] 29).below hb1
  have x0 := xB.cell (j := 0) rfl
  have x1 := xB.cell (j := 1) rfl
  have x2 := xB.cell (j := 2) rfl
  go_wp2_with fail
  refine (HT.out _ (by repeat (first | (with_reducible assumption) | (with_reducible exact Below.refl _ _) | (with_reducible apply below_alloc) | (with_reducible apply below_drewN) | (with_reducible apply Below.drew) | (with_reducible refine below_set ?_ (by dsimp only; omega) _) | (with_reducible refine below_trans ?_ (by assumption))))).mono ?_
  rintro e w2 ⟨rfl, hb2⟩
  replace zB := zB.below hb2
  have lz := zB.lt
  have r0 := zB.cell (j := 0) rfl
  have y0 := zB.frozen 0
  have r1 := zB.cell (j := 1) rfl
  have y1 := zB.frozen 1
  have bw : Below w.heap.size w w2 := by repeat (first | (with_reducible assumption) | (with_reducible exact Below.refl _ _) | (with_reducible apply below_alloc) | (with_reducible apply below_drewN) | (with_reducible apply Below.drew) | (with_reducible refine below_set ?_ (by dsimp only; omega) _) | (with_reducible refine below_trans ?_ (by assumption)))
  clear zB hb1 hb2 HF HT xB x0 x1 x2
  go_wp2_with fail
  exact bodyPost_ret (v := .agg #[.int .i64 0, .string tx]) (by simp [results, Tryz.results7, go_sem, r0, r1]) rfl ⟨rfl, by repeat (first | (with_reducible assumption) | (with_reducible exact Below.refl _ _) | (with_reducible apply below_alloc) | (with_reducible apply below_drewN) | (with_reducible apply Below.drew) | (with_reducible refine below_set ?_ (by dsimp only; omega) _) | (with_reducible refine below_trans ?_ (by assumption)))⟩
theorem sClusterText_c (c : SCluster) (A0 : Option Addr) (c0 : Nat) (A1 : Option Addr) (c1 : Nat) (A2 : Option Addr) (c2 : Nat) (w : World) (h0 : RdS kReplica w A0 c0 c.Nodes) (h1 : RdS kMail w A1 c1 c.Mails) (h2 : RdS kEntry w A2 c2 c.Sealed) :
    Calls Tryz.prog 5 #[.agg #[.slice A0 c.Nodes.length c0, .slice A1 c.Mails.length c1, .slice A2 c.Sealed.length c2]] w fun r w' => r = .returned (.agg #[.int .i64 (cluX c).1, .string (cluX c).2]) ∧ Below w.heap.size w w' := by
  by_cases h : clusF c = 0
  · rw [show cluX c = (0, cluB c) by unfold cluX; rw [if_pos h]]; exact sClusterText_good c _ _ _ _ _ _ w h0 h1 h2 h
  · rw [show cluX c = (clusF c, ⟨#[]⟩) by unfold cluX; rw [if_neg h]]; exact sClusterText_bad c _ _ _ _ _ _ w h0 h1 h2 h
theorem iClusterText_c (c : SCluster) (A0 : Option Addr) (c0 : Nat) (A1 : Option Addr) (c1 : Nat) (A2 : Option Addr) (c2 : Nat) (w : World) (htab : Lib.TabIs Tryz.prog w "internal/strconv.uint64pow10" .u64 Lib.pow10Tab) (h0 : RdS kReplica w A0 c0 c.Nodes) (h1 : RdS kMail w A1 c1 c.Mails) (h2 : RdS kEntry w A2 c2 c.Sealed) :
    Calls Tryz.prog 7 #[.agg #[.slice A0 c.Nodes.length c0, .slice A1 c.Mails.length c1, .slice A2 c.Sealed.length c2]] w fun r w' => r = .returned (.agg #[.int .i64 (cluX c).1, .string (cluX c).2]) ∧ Below w.heap.size w w' := by
  by_cases h : clusF c = 0
  · rw [show cluX c = (0, cluB c) by unfold cluX; rw [if_pos h]]; exact iClusterText_good c _ _ _ _ _ _ w h0 h1 h2 h htab
  · rw [show cluX c = (clusF c, ⟨#[]⟩) by unfold cluX; rw [if_neg h]]; exact iClusterText_bad c _ _ _ _ _ _ w h0 h1 h2 h
end Go.Proofs.YtdjfehjddfbbjaaGreatDoor
