/- The tops of the laws that answer a bool of a cluster (written by gG1.py, own work). -/
import Derived.Test.YtnbenhkbcodlfaaZF2
import Derived.Test.YtnbenhkbcodlfaaZF3b
import Derived.Test.YtnbenhkbcodlfaaZF5
import Derived.Test.YtnbenhkbcodlfaaZF6
import Derived.Test.YtnbenhkbcodlfaaZF9
import Derived.Test.YtnbenhkbcodlfaaZD
set_option linter.unusedVariables false
set_option linter.unusedSimpArgs false
namespace Go.Proofs.Ytnbenhkbcodlfaa
open Go Go.RowKit Mk

set_option maxRecDepth 100000 in
set_option maxHeartbeats 1000000 in
theorem isRight_c (c : SCluster) (A0 : Option Addr) (c0 : Nat) (A1 : Option Addr) (c1 : Nat) (A2 : Option Addr) (c2 : Nat) (w : World) (h0 : RdS kReplica w A0 c0 c.Nodes) (h1 : RdS kMail w A1 c1 c.Mails) (h2 : RdS kEntry w A2 c2 c.Sealed) :
    Calls Try.prog 46 #[.agg #[.slice A0 c.Nodes.length c0, .slice A1 c.Mails.length c1, .slice A2 c.Sealed.length c2]] w fun e w' => e = .returned (.bool (clusF c == 0)) ∧ Below w.heap.size w w' := by
  go_enter Try.func46, Try.ntmps46
  go_wp2_with (go_at_call 40; refine (clusterFault_c c _ _ _ _ _ _ _ (h0.below (by repeat (first | (with_reducible assumption) | (with_reducible exact Below.refl _ _) | (with_reducible apply below_alloc) | (with_reducible apply below_drewN) | (with_reducible apply Below.drew) | (with_reducible refine below_set ?_ (by dsimp only; omega) _) | (with_reducible refine below_trans ?_ (by assumption))))) (h1.below (by repeat (first | (with_reducible assumption) | (with_reducible exact Below.refl _ _) | (with_reducible apply below_alloc) | (with_reducible apply below_drewN) | (with_reducible apply Below.drew) | (with_reducible refine below_set ?_ (by dsimp only; omega) _) | (with_reducible refine below_trans ?_ (by assumption))))) (h2.below (by repeat (first | (with_reducible assumption) | (with_reducible exact Below.refl _ _) | (with_reducible apply below_alloc) | (with_reducible apply below_drewN) | (with_reducible apply Below.drew) | (with_reducible refine below_set ?_ (by dsimp only; omega) _) | (with_reducible refine below_trans ?_ (by assumption)))))).mono ?_; rintro e w1 ⟨rfl, hb1⟩)
  go_ret
  exact ⟨rfl, by repeat (first | (with_reducible assumption) | (with_reducible exact Below.refl _ _) | (with_reducible apply below_alloc) | (with_reducible apply below_drewN) | (with_reducible apply Below.drew) | (with_reducible refine below_set ?_ (by dsimp only; omega) _) | (with_reducible refine below_trans ?_ (by assumption)))⟩

noncomputable def sealedRightX (c : SCluster) : Bool := clusF c == 0 && sealedB c

noncomputable def logsMatchX (c : SCluster) : Bool := clusF c == 0 && matchB c

noncomputable def primariesHaveX (c : SCluster) : Bool := clusF c == 0 && haveB c

noncomputable def safeClusterX (c : SCluster) : Bool := clusF c == 0 && (sealedB c && (matchB c && (haveB c)))

set_option maxRecDepth 100000 in
set_option maxHeartbeats 1000000 in
theorem iSafeCluster_c (c : SCluster) (A0 : Option Addr) (c0 : Nat) (A1 : Option Addr) (c1 : Nat) (A2 : Option Addr) (c2 : Nat) (w : World) (h0 : RdS kReplica w A0 c0 c.Nodes) (h1 : RdS kMail w A1 c1 c.Mails) (h2 : RdS kEntry w A2 c2 c.Sealed) :
    Calls Try.prog 24 #[.agg #[.slice A0 c.Nodes.length c0, .slice A1 c.Mails.length c1, .slice A2 c.Sealed.length c2]] w fun e w' => e = .returned (.bool (safeClusterX c)) ∧ Below w.heap.size w w' := by
  have hat := boxCluster w c 40 h0 h1 h2
  cases q : (clusF c == 0) with
  | false =>
    have HX := Lib.hid (show safeClusterX c = false by unfold safeClusterX; rw [q]; rfl)
    go_enter Try.func24, Try.ntmps24
    go_wp2_with (first | (go_at_call 46; (with_reducible refine (isRight_c c _ _ _ _ _ _ _ ?_ ?_ ?_).mono ?_); exact h0.below (by repeat (first | (with_reducible assumption) | (with_reducible exact Below.refl _ _) | (with_reducible apply below_alloc) | (with_reducible apply below_drewN) | (with_reducible apply Below.drew) | (with_reducible refine below_set ?_ (by dsimp only; omega) _) | (with_reducible refine below_trans ?_ (by assumption)))); exact h1.below (by repeat (first | (with_reducible assumption) | (with_reducible exact Below.refl _ _) | (with_reducible apply below_alloc) | (with_reducible apply below_drewN) | (with_reducible apply Below.drew) | (with_reducible refine below_set ?_ (by dsimp only; omega) _) | (with_reducible refine below_trans ?_ (by assumption)))); exact h2.below (by repeat (first | (with_reducible assumption) | (with_reducible exact Below.refl _ _) | (with_reducible apply below_alloc) | (with_reducible apply below_drewN) | (with_reducible apply Below.drew) | (with_reducible refine below_set ?_ (by dsimp only; omega) _) | (with_reducible refine below_trans ?_ (by assumption)))); rw [q]; rintro e w1 ⟨rfl, hb1⟩))
    go_ret
    exact ⟨ret_bool HX.out.symm, by repeat (first | (with_reducible assumption) | (with_reducible exact Below.refl _ _) | (with_reducible apply below_alloc) | (with_reducible apply below_drewN) | (with_reducible apply Below.drew) | (with_reducible refine below_set ?_ (by dsimp only; omega) _) | (with_reducible refine below_trans ?_ (by assumption)))⟩
  | true =>
    have hz : clusF c = 0 := by simpa using q
    have hfin := clusF_fine hz
    have hcom : ∀ n ∈ c.Nodes, wi n.Commit 0 n.Log.length = true := fun n hn => (hfin n hn).2
    have hsiz := (clusF_size hz).1
    have HX := Lib.hid (show safeClusterX c = (sealedB c && (matchB c && haveB c)) by unfold safeClusterX; rw [q]; rfl)
    go_enter Try.func24, Try.ntmps24
    go_wp2_with (first | (go_at_call 46; (with_reducible refine (isRight_c c _ _ _ _ _ _ _ ?_ ?_ ?_).mono ?_); exact h0.below (by repeat (first | (with_reducible assumption) | (with_reducible exact Below.refl _ _) | (with_reducible apply below_alloc) | (with_reducible apply below_drewN) | (with_reducible apply Below.drew) | (with_reducible refine below_set ?_ (by dsimp only; omega) _) | (with_reducible refine below_trans ?_ (by assumption)))); exact h1.below (by repeat (first | (with_reducible assumption) | (with_reducible exact Below.refl _ _) | (with_reducible apply below_alloc) | (with_reducible apply below_drewN) | (with_reducible apply Below.drew) | (with_reducible refine below_set ?_ (by dsimp only; omega) _) | (with_reducible refine below_trans ?_ (by assumption)))); exact h2.below (by repeat (first | (with_reducible assumption) | (with_reducible exact Below.refl _ _) | (with_reducible apply below_alloc) | (with_reducible apply below_drewN) | (with_reducible apply Below.drew) | (with_reducible refine below_set ?_ (by dsimp only; omega) _) | (with_reducible refine below_trans ?_ (by assumption)))); rw [q]; rintro e w1 ⟨rfl, hb1⟩) | (go_at_call 48; refine (sealedRight_c c _ _ (hat.below (by repeat (first | (with_reducible assumption) | (with_reducible exact Below.refl _ _) | (with_reducible apply below_alloc) | (with_reducible apply below_drewN) | (with_reducible apply Below.drew) | (with_reducible refine below_set ?_ (by dsimp only; omega) _) | (with_reducible refine below_trans ?_ (by assumption))))) hcom).mono ?_; rintro e w2 ⟨rfl, hb2⟩) | (go_at_call 49; refine (logsMatch_c c _ _ (hat.below (by repeat (first | (with_reducible assumption) | (with_reducible exact Below.refl _ _) | (with_reducible apply below_alloc) | (with_reducible apply below_drewN) | (with_reducible apply Below.drew) | (with_reducible refine below_set ?_ (by dsimp only; omega) _) | (with_reducible refine below_trans ?_ (by assumption)))))).mono ?_; rintro e w3 ⟨rfl, hb3⟩) | (go_at_call 50; refine (primariesHave_c c _ _ (hat.below (by repeat (first | (with_reducible assumption) | (with_reducible exact Below.refl _ _) | (with_reducible apply below_alloc) | (with_reducible apply below_drewN) | (with_reducible apply Below.drew) | (with_reducible refine below_set ?_ (by dsimp only; omega) _) | (with_reducible refine below_trans ?_ (by assumption))))) hfin).mono ?_; rintro e w4 ⟨rfl, hb4⟩))
    all_goals go_ret
    all_goals exact ⟨ret_bool (by first | (rw [HX.out]; done) | (rw [HX.out]; simp_all)), by repeat (first | (with_reducible assumption) | (with_reducible exact Below.refl _ _) | (with_reducible apply below_alloc) | (with_reducible apply below_drewN) | (with_reducible apply Below.drew) | (with_reducible refine below_set ?_ (by dsimp only; omega) _) | (with_reducible refine below_trans ?_ (by assumption)))⟩

set_option maxRecDepth 100000 in
set_option maxHeartbeats 1000000 in
theorem iEvenCluster_c (c : SCluster) (A0 : Option Addr) (c0 : Nat) (A1 : Option Addr) (c1 : Nat) (A2 : Option Addr) (c2 : Nat) (w : World) (h0 : RdS kReplica w A0 c0 c.Nodes) (h1 : RdS kMail w A1 c1 c.Mails) (h2 : RdS kEntry w A2 c2 c.Sealed) :
    Calls Try.prog 23 #[.agg #[.slice A0 c.Nodes.length c0, .slice A1 c.Mails.length c1, .slice A2 c.Sealed.length c2]] w fun e w' => e = .returned (.bool (evenX c)) ∧ Below w.heap.size w w' := by
  have hat := boxCluster w c 40 h0 h1 h2
  cases q : (clusF c == 0) with
  | false =>
    have HX := Lib.hid (show evenX c = false by unfold evenX; rw [q]; rfl)
    go_enter Try.func23, Try.ntmps23
    go_wp2_with (first | (go_at_call 46; (with_reducible refine (isRight_c c _ _ _ _ _ _ _ ?_ ?_ ?_).mono ?_); exact h0.below (by repeat (first | (with_reducible assumption) | (with_reducible exact Below.refl _ _) | (with_reducible apply below_alloc) | (with_reducible apply below_drewN) | (with_reducible apply Below.drew) | (with_reducible refine below_set ?_ (by dsimp only; omega) _) | (with_reducible refine below_trans ?_ (by assumption)))); exact h1.below (by repeat (first | (with_reducible assumption) | (with_reducible exact Below.refl _ _) | (with_reducible apply below_alloc) | (with_reducible apply below_drewN) | (with_reducible apply Below.drew) | (with_reducible refine below_set ?_ (by dsimp only; omega) _) | (with_reducible refine below_trans ?_ (by assumption)))); exact h2.below (by repeat (first | (with_reducible assumption) | (with_reducible exact Below.refl _ _) | (with_reducible apply below_alloc) | (with_reducible apply below_drewN) | (with_reducible apply Below.drew) | (with_reducible refine below_set ?_ (by dsimp only; omega) _) | (with_reducible refine below_trans ?_ (by assumption)))); rw [q]; rintro e w1 ⟨rfl, hb1⟩))
    go_ret
    exact ⟨ret_bool HX.out.symm, by repeat (first | (with_reducible assumption) | (with_reducible exact Below.refl _ _) | (with_reducible apply below_alloc) | (with_reducible apply below_drewN) | (with_reducible apply Below.drew) | (with_reducible refine below_set ?_ (by dsimp only; omega) _) | (with_reducible refine below_trans ?_ (by assumption)))⟩
  | true =>
    have hz : clusF c = 0 := by simpa using q
    have hfin := clusF_fine hz
    have hcom : ∀ n ∈ c.Nodes, wi n.Commit 0 n.Log.length = true := fun n hn => (hfin n hn).2
    have hsiz := (clusF_size hz).1
    have HX := Lib.hid (show evenX c = (evenB c) by unfold evenX; rw [q]; rfl)
    go_enter Try.func23, Try.ntmps23
    go_wp2_with (first | (go_at_call 46; (with_reducible refine (isRight_c c _ _ _ _ _ _ _ ?_ ?_ ?_).mono ?_); exact h0.below (by repeat (first | (with_reducible assumption) | (with_reducible exact Below.refl _ _) | (with_reducible apply below_alloc) | (with_reducible apply below_drewN) | (with_reducible apply Below.drew) | (with_reducible refine below_set ?_ (by dsimp only; omega) _) | (with_reducible refine below_trans ?_ (by assumption)))); exact h1.below (by repeat (first | (with_reducible assumption) | (with_reducible exact Below.refl _ _) | (with_reducible apply below_alloc) | (with_reducible apply below_drewN) | (with_reducible apply Below.drew) | (with_reducible refine below_set ?_ (by dsimp only; omega) _) | (with_reducible refine below_trans ?_ (by assumption)))); exact h2.below (by repeat (first | (with_reducible assumption) | (with_reducible exact Below.refl _ _) | (with_reducible apply below_alloc) | (with_reducible apply below_drewN) | (with_reducible apply Below.drew) | (with_reducible refine below_set ?_ (by dsimp only; omega) _) | (with_reducible refine below_trans ?_ (by assumption)))); rw [q]; rintro e w1 ⟨rfl, hb1⟩) | (go_at_call 47; refine (isEven_c c _ _ (hat.below (by repeat (first | (with_reducible assumption) | (with_reducible exact Below.refl _ _) | (with_reducible apply below_alloc) | (with_reducible apply below_drewN) | (with_reducible apply Below.drew) | (with_reducible refine below_set ?_ (by dsimp only; omega) _) | (with_reducible refine below_trans ?_ (by assumption))))) hsiz).mono ?_; rintro e w2 ⟨rfl, hb2⟩))
    all_goals go_ret
    all_goals exact ⟨ret_bool (by first | (rw [HX.out]; done) | (rw [HX.out]; simp_all)), by repeat (first | (with_reducible assumption) | (with_reducible exact Below.refl _ _) | (with_reducible apply below_alloc) | (with_reducible apply below_drewN) | (with_reducible apply Below.drew) | (with_reducible refine below_set ?_ (by dsimp only; omega) _) | (with_reducible refine below_trans ?_ (by assumption)))⟩

end Go.Proofs.Ytnbenhkbcodlfaa
