/- SealedOf: the program's and the reference's (written by gJ11.py, own work). -/
import Derived.Test.YtjljnkbiakadeaaJ5
import Derived.Test.YtjljnkbiakadeaaC1
set_option linter.unusedVariables false
set_option linter.unusedSimpArgs false
namespace Go.Proofs.Ytjljnkbiakadeaa
open Go Go.RowKit Mk
/-- What a call lays that answers so. -/
def LaidEntriesResult (x : SEntriesResult) (w : World) (r : Ending) (w' : World) : Prop := ∃ A1 c1 f1, r = .returned (.agg #[.int .i64 x.Code, .slice A1 x.Entries.length c1]) ∧ HasEntriesResult w.heap.size w' x A1 c1 f1 ∧ Below w.heap.size w w'
theorem LaidEntriesResult.base {x : SEntriesResult} {w w1 w' : World} {r : Ending} (h : LaidEntriesResult x w1 r w') (hb : Below w.heap.size w w1) : LaidEntriesResult x w r w' := by
  obtain ⟨A1, c1, f1, rfl, ⟨h1, nd⟩, b⟩ := h
  have hs := hb.size
  exact ⟨A1, c1, f1, rfl, ⟨h1.lift (fun b hb => by have := (h1.in b hb).1; omega), nd⟩, below_trans hb b⟩
def badEntriesResult (k : Int) : SEntriesResult := ⟨k, []⟩
theorem LaidEntriesResult.bad {w w' : World} (k : Int) (hb : Below w.heap.size w w') : LaidEntriesResult (badEntriesResult k) w (.returned (.agg #[.int .i64 k, .slice none 0 0])) w' :=
  ⟨none, 0, [], rfl, ⟨ownS_nil _ _ _, by simp⟩, hb⟩
def sealedX (c : SCluster) : SEntriesResult := if clusF c != 0 then ⟨clusF c, []⟩ else ⟨0, c.Sealed⟩
theorem sealedX_small (c : SCluster) : ctL ctEntry (sealedX c).Entries ≤ 100000000000000000 := by
  cases q : (clusF c != 0) with
  | true => rw [show sealedX c = ⟨clusF c, []⟩ by unfold sealedX; rw [q, if_pos rfl]]; simp [ctL]
  | false =>
    rw [show sealedX c = ⟨0, c.Sealed⟩ by unfold sealedX; rw [q, if_neg (by simp)]]
    have h1 := logF_len (clusF_nums q).sld
    have h2 := ctEntries c.Sealed
    dsimp only
    omega
set_option maxRecDepth 100000 in
set_option maxHeartbeats 4000000 in
theorem eqEntriesResult_c (x : SEntriesResult) (A1 : Option Addr) (c1 : Nat) (B1 : Option Addr) (d1 : Nat) (w : World) (h1 : RdS kEntry w A1 c1 x.Entries) (k1 : RdS kEntry w B1 d1 x.Entries) :
    Calls Try.prog 30 #[.agg #[.int .i64 x.Code, .slice A1 x.Entries.length c1], .agg #[.int .i64 x.Code, .slice B1 x.Entries.length d1]] w fun e w' => e = .returned (.bool true) ∧ Below w.heap.size w w' := by
  go_enter Try.func30, Try.ntmps30
  go_wp2_with fail
  refine (eqEntryS_c x.Entries _ _ _ _ _ (h1.below (by repeat (first | (with_reducible assumption) | (with_reducible exact Below.refl _ _) | (with_reducible apply below_alloc) | (with_reducible apply below_drewN) | (with_reducible apply Below.drew) | (with_reducible refine below_set ?_ (by dsimp only; omega) _) | (with_reducible refine below_trans ?_ (by assumption))))) (k1.below (by repeat (first | (with_reducible assumption) | (with_reducible exact Below.refl _ _) | (with_reducible apply below_alloc) | (with_reducible apply below_drewN) | (with_reducible apply Below.drew) | (with_reducible refine below_set ?_ (by dsimp only; omega) _) | (with_reducible refine below_trans ?_ (by assumption)))))).mono ?_
  rintro e w1 ⟨rfl, hb1⟩
  have bw : Below w.heap.size w w1 := by repeat (first | (with_reducible assumption) | (with_reducible exact Below.refl _ _) | (with_reducible apply below_alloc) | (with_reducible apply below_drewN) | (with_reducible apply Below.drew) | (with_reducible refine below_set ?_ (by dsimp only; omega) _) | (with_reducible refine below_trans ?_ (by assumption)))
  go_wp2_with fail
  go_ret
  exact ⟨rfl, bw⟩
set_option maxRecDepth 100000 in
set_option maxHeartbeats 4000000 in
theorem iSealedOf_bad (c : SCluster) (A0 : Option Addr) (c0 : Nat) (A1 : Option Addr) (c1 : Nat) (A2 : Option Addr) (c2 : Nat) (w : World) (h0 : RdS kReplica w A0 c0 c.Nodes) (h1 : RdS kMail w A1 c1 c.Mails) (h2 : RdS kEntry w A2 c2 c.Sealed) (q : (clusF c != 0) = true) :
    Calls Try.prog 29 #[.agg #[.slice A0 c.Nodes.length c0, .slice A1 c.Mails.length c1, .slice A2 c.Sealed.length c2]] w fun r w' => LaidEntriesResult (badEntriesResult (clusF c)) w r w' := by
  go_enter Try.func29, Try.ntmps29
  go_wp2_with fail
  refine (clusterFault_c c _ _ _ _ _ _ _ (h0.below (by repeat (first | (with_reducible assumption) | (with_reducible exact Below.refl _ _) | (with_reducible apply below_alloc) | (with_reducible apply below_drewN) | (with_reducible apply Below.drew) | (with_reducible refine below_set ?_ (by dsimp only; omega) _) | (with_reducible refine below_trans ?_ (by assumption))))) (h1.below (by repeat (first | (with_reducible assumption) | (with_reducible exact Below.refl _ _) | (with_reducible apply below_alloc) | (with_reducible apply below_drewN) | (with_reducible apply Below.drew) | (with_reducible refine below_set ?_ (by dsimp only; omega) _) | (with_reducible refine below_trans ?_ (by assumption))))) (h2.below (by repeat (first | (with_reducible assumption) | (with_reducible exact Below.refl _ _) | (with_reducible apply below_alloc) | (with_reducible apply below_drewN) | (with_reducible apply Below.drew) | (with_reducible refine below_set ?_ (by dsimp only; omega) _) | (with_reducible refine below_trans ?_ (by assumption)))))).mono ?_
  rintro e w1 ⟨rfl, hb1⟩
  have bw1 : Below w.heap.size w w1 := below_trans (below_alloc (below_alloc (Below.refl _ _) _) _) hb1
  have xB : Blk w1 w.heap.size 40 [.slice A0 c.Nodes.length c0, .slice A1 c.Mails.length c1, .slice A2 c.Sealed.length c2] := ((blk_alloc w [.slice A0 c.Nodes.length c0, .slice A1 c.Mails.length c1, .slice A2 c.Sealed.length c2] 40).below (below_alloc (Below.refl _ _) _)).below hb1
  have zB : Blk w1 (w.heap.size + 1) 57 [.int .i64 0, .slice none 0 0] := by
    have := (blk_alloc (w.alloc (.cells #[.slice A0 c.Nodes.length c0, .slice A1 c.Mails.length c1, .slice A2 c.Sealed.length c2] 40)) [.int .i64 0, .slice none 0 0] 57).below hb1
    rwa [Deep.nblk_alloc] at this
  have lo1 : w.heap.size + 2 ≤ w1.heap.size := by have := hb1.size; simp only [Deep.nblk_alloc] at this; omega
  have r0 := zB.cell (j := 0) rfl
  have y0 := zB.frozen 0
  have r1 := zB.cell (j := 1) rfl
  have y1 := zB.frozen 1
  go_wp2_with fail
  refine bodyPost_ret (v := .agg #[.int .i64 (clusF c), .slice none 0 0]) (by simp [results, Try.results29, go_sem, r0, r1]) rfl (LaidEntriesResult.bad _ ?_)
  repeat (first | (with_reducible assumption) | (with_reducible exact Below.refl _ _) | (with_reducible apply below_alloc) | (with_reducible apply below_drewN) | (with_reducible apply Below.drew) | (with_reducible refine below_set ?_ (by dsimp only; omega) _) | (with_reducible refine below_trans ?_ (by assumption)))
set_option maxRecDepth 100000 in
set_option maxHeartbeats 4000000 in
theorem iSealedOf_did (c : SCluster) (A0 : Option Addr) (c0 : Nat) (A1 : Option Addr) (c1 : Nat) (A2 : Option Addr) (c2 : Nat) (w : World) (h0 : RdS kReplica w A0 c0 c.Nodes) (h1 : RdS kMail w A1 c1 c.Mails) (h2 : RdS kEntry w A2 c2 c.Sealed) (q : (clusF c != 0) = false) :
    Calls Try.prog 29 #[.agg #[.slice A0 c.Nodes.length c0, .slice A1 c.Mails.length c1, .slice A2 c.Sealed.length c2]] w fun r w' => LaidEntriesResult ⟨0, c.Sealed⟩ w r w' := by
  have hse : c.Sealed.length ≤ 1048576 := by have := logF_len (clusF_nums q).sld; omega
  go_enter Try.func29, Try.ntmps29
  go_wp2_with fail
  refine (clusterFault_c c _ _ _ _ _ _ _ (h0.below (by repeat (first | (with_reducible assumption) | (with_reducible exact Below.refl _ _) | (with_reducible apply below_alloc) | (with_reducible apply below_drewN) | (with_reducible apply Below.drew) | (with_reducible refine below_set ?_ (by dsimp only; omega) _) | (with_reducible refine below_trans ?_ (by assumption))))) (h1.below (by repeat (first | (with_reducible assumption) | (with_reducible exact Below.refl _ _) | (with_reducible apply below_alloc) | (with_reducible apply below_drewN) | (with_reducible apply Below.drew) | (with_reducible refine below_set ?_ (by dsimp only; omega) _) | (with_reducible refine below_trans ?_ (by assumption))))) (h2.below (by repeat (first | (with_reducible assumption) | (with_reducible exact Below.refl _ _) | (with_reducible apply below_alloc) | (with_reducible apply below_drewN) | (with_reducible apply Below.drew) | (with_reducible refine below_set ?_ (by dsimp only; omega) _) | (with_reducible refine below_trans ?_ (by assumption)))))).mono ?_
  rintro e w1 ⟨rfl, hb1⟩
  have bw1 : Below w.heap.size w w1 := below_trans (below_alloc (below_alloc (Below.refl _ _) _) _) hb1
  have xB : Blk w1 w.heap.size 40 [.slice A0 c.Nodes.length c0, .slice A1 c.Mails.length c1, .slice A2 c.Sealed.length c2] := ((blk_alloc w [.slice A0 c.Nodes.length c0, .slice A1 c.Mails.length c1, .slice A2 c.Sealed.length c2] 40).below (below_alloc (Below.refl _ _) _)).below hb1
  have zB : Blk w1 (w.heap.size + 1) 57 [.int .i64 0, .slice none 0 0] := by
    have := (blk_alloc (w.alloc (.cells #[.slice A0 c.Nodes.length c0, .slice A1 c.Mails.length c1, .slice A2 c.Sealed.length c2] 40)) [.int .i64 0, .slice none 0 0] 57).below hb1
    rwa [Deep.nblk_alloc] at this
  have lo1 : w.heap.size + 2 ≤ w1.heap.size := by have := hb1.size; simp only [Deep.nblk_alloc] at this; omega
  have x2 := xB.cell (j := 2) rfl
  go_wp2_with fail
  refine (cloneEntry_c c.Sealed A2 c2 w1 (h2.below bw1) hse).mono ?_
  rintro r w2 ⟨B2, d2, f2, rfl, o2, n2, hb2⟩
  have zB2 := zB.below hb2
  have bw2 := below_trans bw1 hb2
  clear x2
  have r0 := zB2.cell (j := 0) rfl
  have y0 := zB2.frozen 0
  have r1 := zB2.cell (j := 1) rfl
  have y1 := zB2.frozen 1
  go_wp2_with fail
  refine bodyPost_ret (v := .agg #[.int .i64 0, .slice B2 c.Sealed.length d2]) (by simp [results, Try.results29, go_sem, r0, r1]) rfl ⟨B2, d2, f2, rfl, ⟨?_, n2⟩, ?_⟩
  · refine OwnS.past (lo := w.heap.size + 2) (w := w2) o2 ?_ (by omega) (by omega)
    repeat (first | (with_reducible exact Past.refl _ _) | (with_reducible refine Past.set ?_ (by omega) _))
  · repeat (first | (with_reducible assumption) | (with_reducible exact Below.refl _ _) | (with_reducible apply below_alloc) | (with_reducible apply below_drewN) | (with_reducible apply Below.drew) | (with_reducible refine below_set ?_ (by dsimp only; omega) _) | (with_reducible refine below_trans ?_ (by assumption)))
theorem iSealedOf_c (c : SCluster) (A0 : Option Addr) (c0 : Nat) (A1 : Option Addr) (c1 : Nat) (A2 : Option Addr) (c2 : Nat) (w : World) (h0 : RdS kReplica w A0 c0 c.Nodes) (h1 : RdS kMail w A1 c1 c.Mails) (h2 : RdS kEntry w A2 c2 c.Sealed) :
    Calls Try.prog 29 #[.agg #[.slice A0 c.Nodes.length c0, .slice A1 c.Mails.length c1, .slice A2 c.Sealed.length c2]] w fun r w' => LaidEntriesResult (sealedX c) w r w' := by
  cases q : (clusF c != 0) with
  | true => rw [show sealedX c = badEntriesResult (clusF c) by unfold sealedX badEntriesResult; rw [q, if_pos rfl]]; exact iSealedOf_bad c A0 c0 A1 c1 A2 c2 w h0 h1 h2 q
  | false => rw [show sealedX c = ⟨0, c.Sealed⟩ by unfold sealedX; rw [q, if_neg (by simp)]]; exact iSealedOf_did c A0 c0 A1 c1 A2 c2 w h0 h1 h2 q
set_option maxRecDepth 100000 in
set_option maxHeartbeats 4000000 in
theorem sSealedOf_bad (c : SCluster) (A0 : Option Addr) (c0 : Nat) (A1 : Option Addr) (c1 : Nat) (A2 : Option Addr) (c2 : Nat) (w : World) (h0 : RdS kReplica w A0 c0 c.Nodes) (h1 : RdS kMail w A1 c1 c.Mails) (h2 : RdS kEntry w A2 c2 c.Sealed) (q : (clusF c != 0) = true) :
    Calls Try.prog 27 #[.agg #[.slice A0 c.Nodes.length c0, .slice A1 c.Mails.length c1, .slice A2 c.Sealed.length c2]] w fun r w' => LaidEntriesResult (badEntriesResult (clusF c)) w r w' := by
  have hat := boxCluster w c 40 h0 h1 h2
  have ba : Below (w.alloc (.cells #[.slice A0 c.Nodes.length c0, .slice A1 c.Mails.length c1, .slice A2 c.Sealed.length c2] 40)).heap.size (w.alloc (.cells #[.slice A0 c.Nodes.length c0, .slice A1 c.Mails.length c1, .slice A2 c.Sealed.length c2] 40)) ((w.alloc (.cells #[.slice A0 c.Nodes.length c0, .slice A1 c.Mails.length c1, .slice A2 c.Sealed.length c2] 40)).alloc (.cells #[.int .i64 0, .slice none 0 0] 57)) := below_alloc (Below.refl _ _) _
  go_enter Try.func27, Try.ntmps27
  go_wp2_with fail
  refine (l11Fault_c c _ _ (hat.below ba)).mono ?_
  rintro e w1 ⟨rfl, hb1⟩
  have bw1 : Below w.heap.size w w1 := below_trans (below_alloc (below_alloc (Below.refl _ _) _) _) hb1
  have xB : Blk w1 w.heap.size 40 [.slice A0 c.Nodes.length c0, .slice A1 c.Mails.length c1, .slice A2 c.Sealed.length c2] := ((blk_alloc w [.slice A0 c.Nodes.length c0, .slice A1 c.Mails.length c1, .slice A2 c.Sealed.length c2] 40).below (below_alloc (Below.refl _ _) _)).below hb1
  have zB : Blk w1 (w.heap.size + 1) 57 [.int .i64 0, .slice none 0 0] := by
    have := (blk_alloc (w.alloc (.cells #[.slice A0 c.Nodes.length c0, .slice A1 c.Mails.length c1, .slice A2 c.Sealed.length c2] 40)) [.int .i64 0, .slice none 0 0] 57).below hb1
    rwa [Deep.nblk_alloc] at this
  have lo1 : w.heap.size + 2 ≤ w1.heap.size := by have := hb1.size; simp only [Deep.nblk_alloc] at this; omega
  have r0 := zB.cell (j := 0) rfl
  have y0 := zB.frozen 0
  have r1 := zB.cell (j := 1) rfl
  have y1 := zB.frozen 1
  go_wp2_with fail
  refine bodyPost_ret (v := .agg #[.int .i64 (clusF c), .slice none 0 0]) (by simp [results, Try.results27, go_sem, r0, r1]) rfl (LaidEntriesResult.bad _ ?_)
  repeat (first | (with_reducible assumption) | (with_reducible exact Below.refl _ _) | (with_reducible apply below_alloc) | (with_reducible apply below_drewN) | (with_reducible apply Below.drew) | (with_reducible refine below_set ?_ (by dsimp only; omega) _) | (with_reducible refine below_trans ?_ (by assumption)))
set_option maxRecDepth 100000 in
set_option maxHeartbeats 4000000 in
theorem sSealedOf_did (c : SCluster) (A0 : Option Addr) (c0 : Nat) (A1 : Option Addr) (c1 : Nat) (A2 : Option Addr) (c2 : Nat) (w : World) (h0 : RdS kReplica w A0 c0 c.Nodes) (h1 : RdS kMail w A1 c1 c.Mails) (h2 : RdS kEntry w A2 c2 c.Sealed) (q : (clusF c != 0) = false) :
    Calls Try.prog 27 #[.agg #[.slice A0 c.Nodes.length c0, .slice A1 c.Mails.length c1, .slice A2 c.Sealed.length c2]] w fun r w' => LaidEntriesResult ⟨0, c.Sealed⟩ w r w' := by
  have hat := boxCluster w c 40 h0 h1 h2
  have ba : Below (w.alloc (.cells #[.slice A0 c.Nodes.length c0, .slice A1 c.Mails.length c1, .slice A2 c.Sealed.length c2] 40)).heap.size (w.alloc (.cells #[.slice A0 c.Nodes.length c0, .slice A1 c.Mails.length c1, .slice A2 c.Sealed.length c2] 40)) ((w.alloc (.cells #[.slice A0 c.Nodes.length c0, .slice A1 c.Mails.length c1, .slice A2 c.Sealed.length c2] 40)).alloc (.cells #[.int .i64 0, .slice none 0 0] 57)) := below_alloc (Below.refl _ _) _
  have hse : c.Sealed.length ≤ 1048576 := by have := logF_len (clusF_nums q).sld; omega
  go_enter Try.func27, Try.ntmps27
  go_wp2_with fail
  refine (l11Fault_c c _ _ (hat.below ba)).mono ?_
  rintro e w1 ⟨rfl, hb1⟩
  have bw1 : Below w.heap.size w w1 := below_trans (below_alloc (below_alloc (Below.refl _ _) _) _) hb1
  have xB : Blk w1 w.heap.size 40 [.slice A0 c.Nodes.length c0, .slice A1 c.Mails.length c1, .slice A2 c.Sealed.length c2] := ((blk_alloc w [.slice A0 c.Nodes.length c0, .slice A1 c.Mails.length c1, .slice A2 c.Sealed.length c2] 40).below (below_alloc (Below.refl _ _) _)).below hb1
  have zB : Blk w1 (w.heap.size + 1) 57 [.int .i64 0, .slice none 0 0] := by
    have := (blk_alloc (w.alloc (.cells #[.slice A0 c.Nodes.length c0, .slice A1 c.Mails.length c1, .slice A2 c.Sealed.length c2] 40)) [.int .i64 0, .slice none 0 0] 57).below hb1
    rwa [Deep.nblk_alloc] at this
  have lo1 : w.heap.size + 2 ≤ w1.heap.size := by have := hb1.size; simp only [Deep.nblk_alloc] at this; omega
  have x2 := xB.cell (j := 2) rfl
  go_wp2_with fail
  refine (l8Copy_c c.Sealed A2 c2 w1 (h2.below bw1) hse).mono ?_
  rintro r w2 ⟨B2, d2, f2, rfl, o2, n2, hb2⟩
  have zB2 := zB.below hb2
  have bw2 := below_trans bw1 hb2
  clear x2
  have r0 := zB2.cell (j := 0) rfl
  have y0 := zB2.frozen 0
  have r1 := zB2.cell (j := 1) rfl
  have y1 := zB2.frozen 1
  go_wp2_with fail
  refine bodyPost_ret (v := .agg #[.int .i64 0, .slice B2 c.Sealed.length d2]) (by simp [results, Try.results27, go_sem, r0, r1]) rfl ⟨B2, d2, f2, rfl, ⟨?_, n2⟩, ?_⟩
  · refine OwnS.past (lo := w.heap.size + 2) (w := w2) o2 ?_ (by omega) (by omega)
    repeat (first | (with_reducible exact Past.refl _ _) | (with_reducible refine Past.set ?_ (by omega) _))
  · repeat (first | (with_reducible assumption) | (with_reducible exact Below.refl _ _) | (with_reducible apply below_alloc) | (with_reducible apply below_drewN) | (with_reducible apply Below.drew) | (with_reducible refine below_set ?_ (by dsimp only; omega) _) | (with_reducible refine below_trans ?_ (by assumption)))
theorem sSealedOf_c (c : SCluster) (A0 : Option Addr) (c0 : Nat) (A1 : Option Addr) (c1 : Nat) (A2 : Option Addr) (c2 : Nat) (w : World) (h0 : RdS kReplica w A0 c0 c.Nodes) (h1 : RdS kMail w A1 c1 c.Mails) (h2 : RdS kEntry w A2 c2 c.Sealed) :
    Calls Try.prog 27 #[.agg #[.slice A0 c.Nodes.length c0, .slice A1 c.Mails.length c1, .slice A2 c.Sealed.length c2]] w fun r w' => LaidEntriesResult (sealedX c) w r w' := by
  cases q : (clusF c != 0) with
  | true => rw [show sealedX c = badEntriesResult (clusF c) by unfold sealedX badEntriesResult; rw [q, if_pos rfl]]; exact sSealedOf_bad c A0 c0 A1 c1 A2 c2 w h0 h1 h2 q
  | false => rw [show sealedX c = ⟨0, c.Sealed⟩ by unfold sealedX; rw [q, if_neg (by simp)]]; exact sSealedOf_did c A0 c0 A1 c1 A2 c2 w h0 h1 h2 q
end Go.Proofs.Ytjljnkbiakadeaa
