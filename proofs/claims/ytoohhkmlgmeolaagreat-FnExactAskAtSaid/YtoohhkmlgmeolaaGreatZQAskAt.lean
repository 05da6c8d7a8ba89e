/- The law AskAt, walked (written by gLaw.py, own work). -/
import Derived.Test.YtoohhkmlgmeolaaGreatZN7
set_option linter.unusedVariables false
set_option linter.unusedSimpArgs false
namespace Go.Proofs.YtoohhkmlgmeolaaGreat
open Go Go.RowKit Mk
theorem size_drew (w : World) : w.drew.heap.size = w.heap.size := rfl
theorem blk_alloc_drew (w : World) (l : List Value) (e : TypeId) : Blk (w.alloc (.cells l.toArray e)).drew w.heap.size e l := Blk.keep (blk_alloc w l e) rfl
/-- A cluster's result that is laid and read, its box held by s. -/
def AnsR (X : SClusterResult) (w1 : World) (s : Value) (W : World) : Prop := ∃ g S1 s1 S2 s2 S3 s3, s = .pointer (some ⟨g, 0, none⟩) ∧ Blk W g 74 [.int .i64 X.Code, .slice S1 X.Cluster.Nodes.length s1, .slice S2 X.Cluster.Mails.length s2, .slice S3 X.Cluster.Sealed.length s3] ∧ RdS kReplica W S1 s1 X.Cluster.Nodes ∧ RdS kMail W S2 s2 X.Cluster.Mails ∧ RdS kEntry W S3 s3 X.Cluster.Sealed ∧ w1.heap.size ≤ g ∧ Below w1.heap.size w1 W
def AnsO (X : SClusterResult) (w1 : World) (s : Value) (W : World) : Prop := ∃ g P1 a1 P2 a2 P3 a3 g1 g2 g3, s = .pointer (some ⟨g, 0, none⟩) ∧ Blk W g 74 [.int .i64 X.Code, .slice P1 X.Cluster.Nodes.length a1, .slice P2 X.Cluster.Mails.length a2, .slice P3 X.Cluster.Sealed.length a3] ∧ HasClusterResult w1.heap.size W X P1 a1 P2 a2 P3 a3 g1 g2 g3 ∧ w1.heap.size ≤ g ∧ g ∉ g1 ++ (g2 ++ g3) ∧ Below w1.heap.size w1 W
theorem turn4 (w : World) (g : Nat) (a b c d : Value) : Turn [g] w ((((w.setCell ⟨g, 0, none⟩ a).setCell ⟨g, 1, none⟩ b).setCell ⟨g, 2, none⟩ c).setCell ⟨g, 3, none⟩ d) := ((((Turn.refl [g] w).set (by simp) _).set (by simp) _).set (by simp) _).set (by simp) _
theorem blk4 {w : World} {g : Nat} {e : TypeId} {v0 v1 v2 v3 : Value} (kk : Blk w g e [v0, v1, v2, v3]) (a b c d : Value) : Blk ((((w.setCell ⟨g, 0, none⟩ a).setCell ⟨g, 1, none⟩ b).setCell ⟨g, 2, none⟩ c).setCell ⟨g, 3, none⟩ d) g e [a, b, c, d] := (((kk.set0 0 a).set0 1 b).set0 2 c).set0 3 d
section
variable {X : SClusterResult} {w1 wS : World} {B g : Nat} {v0 v1 v2 v3 : Value} {S1 S2 S3 : Option Addr} {s1 s2 s3 : Nat} {u1 u2 u3 : List Nat}
theorem ansR_late (hS : HasClusterResult B wS X S1 s1 S2 s2 S3 s3 u1 u2 u3) (hb : Below w1.heap.size w1 wS) : AnsR X w1 (.pointer (some ⟨wS.heap.size, 0, none⟩)) (wS.alloc (.cells #[.int .i64 X.Code, .slice S1 X.Cluster.Nodes.length s1, .slice S2 X.Cluster.Mails.length s2, .slice S3 X.Cluster.Sealed.length s3] 74)) :=
  ⟨wS.heap.size, S1, s1, S2, s2, S3, s3, rfl, blk_alloc wS _ _, (ownS_rds hS.1).1.below (below_alloc (Below.refl _ _) _), (ownS_rds hS.2.1).1.below (below_alloc (Below.refl _ _) _), (ownS_rds hS.2.2.1).1.below (below_alloc (Below.refl _ _) _), hb.size, below_alloc hb _⟩
theorem ansR_early (kk : Blk wS g 74 [v0, v1, v2, v3]) (hS : HasClusterResult B wS X S1 s1 S2 s2 S3 s3 u1 u2 u3) (hgB : g < B) (hg : w1.heap.size ≤ g) (hb : Below w1.heap.size w1 wS) : AnsR X w1 (.pointer (some ⟨g, 0, none⟩)) ((((wS.setCell ⟨g, 0, none⟩ (.int .i64 X.Code)).setCell ⟨g, 1, none⟩ (.slice S1 X.Cluster.Nodes.length s1)).setCell ⟨g, 2, none⟩ (.slice S2 X.Cluster.Mails.length s2)).setCell ⟨g, 3, none⟩ (.slice S3 X.Cluster.Sealed.length s3)) := by
  have T := turn4 wS g (.int .i64 X.Code) (.slice S1 X.Cluster.Nodes.length s1) (.slice S2 X.Cluster.Mails.length s2) (.slice S3 X.Cluster.Sealed.length s3)
  have K := blk4 kk (.int .i64 X.Code) (.slice S1 X.Cluster.Nodes.length s1) (.slice S2 X.Cluster.Mails.length s2) (.slice S3 X.Cluster.Sealed.length s3)
  generalize ((((wS.setCell ⟨g, 0, none⟩ (.int .i64 X.Code)).setCell ⟨g, 1, none⟩ (.slice S1 X.Cluster.Nodes.length s1)).setCell ⟨g, 2, none⟩ (.slice S2 X.Cluster.Mails.length s2)).setCell ⟨g, 3, none⟩ (.slice S3 X.Cluster.Sealed.length s3)) = W at T K ⊢
  exact ⟨g, S1, s1, S2, s2, S3, s3, rfl, K, (ownS_rds (hS.1.turn T (fun b hm h => by have := (hS.1.in b hm).1; simp at h; omega))).1, (ownS_rds (hS.2.1.turn T (fun b hm h => by have := (hS.2.1.in b hm).1; simp at h; omega))).1, (ownS_rds (hS.2.2.1.turn T (fun b hm h => by have := (hS.2.2.1.in b hm).1; simp at h; omega))).1, hg, hb.trans (T.below (B := w1.heap.size) (by intro b h; simp at h; omega) hb.size)⟩
theorem ansO_late (hS : HasClusterResult B wS X S1 s1 S2 s2 S3 s3 u1 u2 u3) (hB : w1.heap.size ≤ B) (hb : Below w1.heap.size w1 wS) : AnsO X w1 (.pointer (some ⟨wS.heap.size, 0, none⟩)) (wS.alloc (.cells #[.int .i64 X.Code, .slice S1 X.Cluster.Nodes.length s1, .slice S2 X.Cluster.Mails.length s2, .slice S3 X.Cluster.Sealed.length s3] 74)) := by
  have bb := below_alloc (Below.refl wS.heap.size wS) (.cells #[.int .i64 X.Code, .slice S1 X.Cluster.Nodes.length s1, .slice S2 X.Cluster.Mails.length s2, .slice S3 X.Cluster.Sealed.length s3] 74)
  refine ⟨wS.heap.size, S1, s1, S2, s2, S3, s3, u1, u2, u3, rfl, blk_alloc wS _ _, ⟨(OwnS.bel' hS.1 bb).lift (fun b hm => by have := (hS.1.in b hm).1; omega), (OwnS.bel' hS.2.1 bb).lift (fun b hm => by have := (hS.2.1.in b hm).1; omega), (OwnS.bel' hS.2.2.1 bb).lift (fun b hm => by have := (hS.2.2.1.in b hm).1; omega), hS.2.2.2⟩, hb.size, ?_, below_alloc hb _⟩
  simp only [List.mem_append, not_or]
  exact ⟨fun h => by have := (hS.1.in _ h).2; omega, fun h => by have := (hS.2.1.in _ h).2; omega, fun h => by have := (hS.2.2.1.in _ h).2; omega⟩
theorem ansO_early (kk : Blk wS g 74 [v0, v1, v2, v3]) (hS : HasClusterResult B wS X S1 s1 S2 s2 S3 s3 u1 u2 u3) (hgB : g < B) (hg : w1.heap.size ≤ g) (hb : Below w1.heap.size w1 wS) : AnsO X w1 (.pointer (some ⟨g, 0, none⟩)) ((((wS.setCell ⟨g, 0, none⟩ (.int .i64 X.Code)).setCell ⟨g, 1, none⟩ (.slice S1 X.Cluster.Nodes.length s1)).setCell ⟨g, 2, none⟩ (.slice S2 X.Cluster.Mails.length s2)).setCell ⟨g, 3, none⟩ (.slice S3 X.Cluster.Sealed.length s3)) := by
  have T := turn4 wS g (.int .i64 X.Code) (.slice S1 X.Cluster.Nodes.length s1) (.slice S2 X.Cluster.Mails.length s2) (.slice S3 X.Cluster.Sealed.length s3)
  have K := blk4 kk (.int .i64 X.Code) (.slice S1 X.Cluster.Nodes.length s1) (.slice S2 X.Cluster.Mails.length s2) (.slice S3 X.Cluster.Sealed.length s3)
  generalize ((((wS.setCell ⟨g, 0, none⟩ (.int .i64 X.Code)).setCell ⟨g, 1, none⟩ (.slice S1 X.Cluster.Nodes.length s1)).setCell ⟨g, 2, none⟩ (.slice S2 X.Cluster.Mails.length s2)).setCell ⟨g, 3, none⟩ (.slice S3 X.Cluster.Sealed.length s3)) = W at T K ⊢
  refine ⟨g, S1, s1, S2, s2, S3, s3, u1, u2, u3, rfl, K, ⟨(hS.1.turn T (fun b hm h => by have := (hS.1.in b hm).1; simp at h; omega)).lift (fun b hm => by have := (hS.1.in b hm).1; omega), (hS.2.1.turn T (fun b hm h => by have := (hS.2.1.in b hm).1; simp at h; omega)).lift (fun b hm => by have := (hS.2.1.in b hm).1; omega), (hS.2.2.1.turn T (fun b hm h => by have := (hS.2.2.1.in b hm).1; simp at h; omega)).lift (fun b hm => by have := (hS.2.2.1.in b hm).1; omega), hS.2.2.2⟩, hg, ?_, hb.trans (T.below (B := w1.heap.size) (by intro b h; simp at h; omega) hb.size)⟩
  simp only [List.mem_append, not_or]
  exact ⟨fun h => by have := (hS.1.in _ h).1; omega, fun h => by have := (hS.2.1.in _ h).1; omega, fun h => by have := (hS.2.2.1.in _ h).1; omega⟩
end
set_option maxRecDepth 100000 in
set_option maxHeartbeats 40000000 in
theorem law_AskAt (n : SCluster) (k : Int) (x : SEntry) (A0 : Option Addr) (c0 : Nat) (A1 : Option Addr) (c1 : Nat) (A2 : Option Addr) (c2 : Nat) (w : World) (h0 : RdS kReplica w A0 c0 n.Nodes) (h1 : RdS kMail w A1 c1 n.Mails) (h2 : RdS kEntry w A2 c2 n.Sealed) :
    Calls Tryz.prog 8 #[.agg #[.slice A0 n.Nodes.length c0, .slice A1 n.Mails.length c1, .slice A2 n.Sealed.length c2], .int .i64 k, .agg #[.int .i64 x.Client, .int .i64 x.Seq, .int .i64 x.Op.Kind, .int .i64 x.Op.Vol, .int .i64 x.Op.At, .int .i64 x.Op.Value]] w fun e w' => e = .returned (.bool true) ∧ Below w.heap.size w w' := by
  have HS := Lib.hid (sAskAt_c n k x)
  have HI := Lib.hid (iAskAt_c n k x)
  have cX := atAskX_small n k x
  generalize atX (askX x) n k = X at HS HI cX
  go_enter Tryz.func8, Tryz.ntmps8
  go_wp2_with fail
  refine (szCluster_c n _ _ _ _ _ _ _ _ (h0.below (by repeat (first | (with_reducible assumption) | (with_reducible exact Below.refl _ _) | (with_reducible apply below_alloc) | (with_reducible apply below_drewN) | (with_reducible apply Below.drew) | (with_reducible refine below_set ?_ (by dsimp only; omega) _) | (with_reducible refine below_trans ?_ (by assumption))))) (h1.below (by repeat (first | (with_reducible assumption) | (with_reducible exact Below.refl _ _) | (with_reducible apply below_alloc) | (with_reducible apply below_drewN) | (with_reducible apply Below.drew) | (with_reducible refine below_set ?_ (by dsimp only; omega) _) | (with_reducible refine below_trans ?_ (by assumption))))) (h2.below (by repeat (first | (with_reducible assumption) | (with_reducible exact Below.refl _ _) | (with_reducible apply below_alloc) | (with_reducible apply below_drewN) | (with_reducible apply Below.drew) | (with_reducible refine below_set ?_ (by dsimp only; omega) _) | (with_reducible refine below_trans ?_ (by assumption))))) (by omega) (by omega)).mono ?_
  rintro e w1 ⟨⟨r, rfl, hr⟩, hb1⟩
  have bw1 : Below w.heap.size w w1 := by repeat (first | (with_reducible assumption) | (with_reducible exact Below.refl _ _) | (with_reducible apply below_alloc) | (with_reducible apply below_drewN) | (with_reducible apply Below.drew) | (with_reducible refine below_set ?_ (by dsimp only; omega) _) | (with_reducible refine below_trans ?_ (by assumption)))
  have x1 : Blk w1 w.heap.size 68 [.slice A0 n.Nodes.length c0, .slice A1 n.Mails.length c1, .slice A2 n.Sealed.length c2] := ((blk_alloc w [.slice A0 n.Nodes.length c0, .slice A1 n.Mails.length c1, .slice A2 n.Sealed.length c2] 68).below (below_alloc (Below.refl _ _) _)).below hb1
  have v1 : Blk w1 (w.heap.size + 1) 71 [.int .i64 x.Client, .int .i64 x.Seq, .int .i64 x.Op.Kind, .int .i64 x.Op.Vol, .int .i64 x.Op.At, .int .i64 x.Op.Value] := by
    have := (blk_alloc (w.alloc (.cells #[.slice A0 n.Nodes.length c0, .slice A1 n.Mails.length c1, .slice A2 n.Sealed.length c2] 68)) [.int .i64 x.Client, .int .i64 x.Seq, .int .i64 x.Op.Kind, .int .i64 x.Op.Vol, .int .i64 x.Op.At, .int .i64 x.Op.Value] 71).below hb1
    rwa [Deep.nblk_alloc] at this
  by_cases hr0 : r < 0
  · have hd : decide (r < 0) = true := decide_eq_true hr0
    go_wp2_with fail
    go_ret
    exact ⟨rfl, bw1⟩
  have hd : decide (r < 0) = false := decide_eq_false hr0
  have ht : totCluster n ≤ 1048576 := by unfold Left at hr; omega
  have cN := ctCluster_arg ht
  clear hr0 hr
  have vl1 := v1.lt
  have xl1 := x1.lt
  have e_0 := x1.cell (j := 0) rfl
  have e_1 := x1.cell (j := 1) rfl
  have e_2 := x1.cell (j := 2) rfl
  have v_0 := v1.cell (j := 0) rfl
  have v_1 := v1.cell (j := 1) rfl
  have v_2 := v1.cell (j := 2) rfl
  have v_3 := v1.cell (j := 3) rfl
  have v_4 := v1.cell (j := 4) rfl
  have v_5 := v1.cell (j := 5) rfl
  go_upto_region 5 with fail
  clear hd
  go_cut [8] (fun s W => AnsR X w1 s W)
  case first =>
    go_region_with (first | (go_at_call 44; refine (toCluster_c n A0 c0 A1 c1 A2 c2 _ (h0.below (by repeat (first | (with_reducible assumption) | (with_reducible exact Below.refl _ _) | (with_reducible apply below_alloc) | (with_reducible apply below_drewN) | (with_reducible apply Below.drew) | (with_reducible refine below_set ?_ (by dsimp only; omega) _) | (with_reducible refine below_trans ?_ (by assumption))))) (h1.below (by repeat (first | (with_reducible assumption) | (with_reducible exact Below.refl _ _) | (with_reducible apply below_alloc) | (with_reducible apply below_drewN) | (with_reducible apply Below.drew) | (with_reducible refine below_set ?_ (by dsimp only; omega) _) | (with_reducible refine below_trans ?_ (by assumption))))) (h2.below (by repeat (first | (with_reducible assumption) | (with_reducible exact Below.refl _ _) | (with_reducible apply below_alloc) | (with_reducible apply below_drewN) | (with_reducible apply Below.drew) | (with_reducible refine below_set ?_ (by dsimp only; omega) _) | (with_reducible refine below_trans ?_ (by assumption))))) ht).mono ?_; rintro e wT ⟨G0, G1, G2, rfl, ⟨fp, nd, ow⟩, hbT⟩; obtain ⟨f0, f1, f2, rfl, hP⟩ := ownCluster_parts ow nd; have vT := v1.below (show Below w1.heap.size w1 wT by repeat (first | (with_reducible assumption) | (with_reducible exact Below.refl _ _) | (with_reducible apply below_alloc) | (with_reducible apply below_drewN) | (with_reducible apply Below.drew) | (with_reducible refine below_set ?_ (by dsimp only; omega) _) | (with_reducible refine below_trans ?_ (by assumption)))); have vt0 := vT.cell (j := 0) rfl; have vt1 := vT.cell (j := 1) rfl; have vt2 := vT.cell (j := 2) rfl; have vt3 := vT.cell (j := 3) rfl; have vt4 := vT.cell (j := 4) rfl; have vt5 := vT.cell (j := 5) rfl; have vTl := vT.lt; (first | (have kk := (blk_alloc _ [.int .i64 0, .slice none 0 0, .slice none 0 0, .slice none 0 0] 74).below hbT) | (have kk := (blk_alloc_drew _ [.int .i64 0, .slice none 0 0, .slice none 0 0, .slice none 0 0] 74).below hbT) | (have kk := kk.below hbT) | skip); (try simp only [size_drew] at kk); (first | (have kc0 := kk.cell (j := 0) rfl; have kc1 := kk.cell (j := 1) rfl; have kc2 := kk.cell (j := 2) rfl; have kc3 := kk.cell (j := 3) rfl; have kf0 := kk.frozen 0; have kf1 := kk.frozen 1; have kf2 := kk.frozen 2; have kf3 := kk.frozen 3) | skip)) | (go_at_call 45; refine (toEntry_c x _).mono ?_; rintro e wE ⟨rfl, hbE⟩; have xE := x1.below (show Below w1.heap.size w1 wE by repeat (first | (with_reducible assumption) | (with_reducible exact Below.refl _ _) | (with_reducible apply below_alloc) | (with_reducible apply below_drewN) | (with_reducible apply Below.drew) | (with_reducible refine below_set ?_ (by dsimp only; omega) _) | (with_reducible refine below_trans ?_ (by assumption)))); have xe0 := xE.cell (j := 0) rfl; have xe1 := xE.cell (j := 1) rfl; have xe2 := xE.cell (j := 2) rfl; have xEl := xE.lt; (first | (have kk := (blk_alloc _ [.int .i64 0, .slice none 0 0, .slice none 0 0, .slice none 0 0] 74).below hbE) | (have kk := (blk_alloc_drew _ [.int .i64 0, .slice none 0 0, .slice none 0 0, .slice none 0 0] 74).below hbE) | (have kk := kk.below hbE) | skip); (try simp only [size_drew] at kk); (first | (have kc0 := kk.cell (j := 0) rfl; have kc1 := kk.cell (j := 1) rfl; have kc2 := kk.cell (j := 2) rfl; have kc3 := kk.cell (j := 3) rfl; have kf0 := kk.frozen 0; have kf1 := kk.frozen 1; have kf2 := kk.frozen 2; have kf3 := kk.frozen 3) | skip)) | (go_at_call 43; (first | have hgB := kk.lt | skip); refine (HS.out _ _ _ _ _ _ _ ((ownS_rds hP.1).1.below (by repeat (first | (with_reducible assumption) | (with_reducible exact Below.refl _ _) | (with_reducible apply below_alloc) | (with_reducible apply below_drewN) | (with_reducible apply Below.drew) | (with_reducible refine below_set ?_ (by dsimp only; omega) _) | (with_reducible refine below_trans ?_ (by assumption))))) ((ownS_rds hP.2.1).1.below (by repeat (first | (with_reducible assumption) | (with_reducible exact Below.refl _ _) | (with_reducible apply below_alloc) | (with_reducible apply below_drewN) | (with_reducible apply Below.drew) | (with_reducible refine below_set ?_ (by dsimp only; omega) _) | (with_reducible refine below_trans ?_ (by assumption))))) ((ownS_rds hP.2.2.1).1.below (by repeat (first | (with_reducible assumption) | (with_reducible exact Below.refl _ _) | (with_reducible apply below_alloc) | (with_reducible apply below_drewN) | (with_reducible apply Below.drew) | (with_reducible refine below_set ?_ (by dsimp only; omega) _) | (with_reducible refine below_trans ?_ (by assumption)))))).mono ?_; rintro e wS ⟨S1, s1, S2, s2, S3, s3, u1, u2, u3, rfl, hS, hbS⟩; (first | (have kk := (blk_alloc _ [.int .i64 0, .slice none 0 0, .slice none 0 0, .slice none 0 0] 74).below hbS) | (have kk := (blk_alloc_drew _ [.int .i64 0, .slice none 0 0, .slice none 0 0, .slice none 0 0] 74).below hbS) | (have kk := kk.below hbS) | skip); (try simp only [size_drew] at kk); (first | (have kc0 := kk.cell (j := 0) rfl; have kc1 := kk.cell (j := 1) rfl; have kc2 := kk.cell (j := 2) rfl; have kc3 := kk.cell (j := 3) rfl; have kf0 := kk.frozen 0; have kf1 := kk.frozen 1; have kf2 := kk.frozen 2; have kf3 := kk.frozen 3) | skip)))
    all_goals (go_wp2_with fail)
    all_goals (go_meet)
    all_goals
      first
        | (with_reducible refine ansR_late hS ?_)
          exact (show Below w1.heap.size w1 wS by repeat (first | (with_reducible assumption) | (with_reducible exact Below.refl _ _) | (with_reducible apply below_alloc) | (with_reducible apply below_drewN) | (with_reducible apply Below.drew) | (with_reducible refine below_set ?_ (by dsimp only; omega) _) | (with_reducible refine below_trans ?_ (by assumption))))
        | (with_reducible refine ansR_early kk hS ?_ ?_ ?_)
          · first | exact hgB | (simp only [size_drew, Deep.nblk_alloc]; omega)
          · first | (with_reducible exact Nat.le_refl _) | (with_reducible exact (show Below w1.heap.size w1 wT by repeat (first | (with_reducible assumption) | (with_reducible exact Below.refl _ _) | (with_reducible apply below_alloc) | (with_reducible apply below_drewN) | (with_reducible apply Below.drew) | (with_reducible refine below_set ?_ (by dsimp only; omega) _) | (with_reducible refine below_trans ?_ (by assumption)))).size) | (with_reducible exact (show Below w1.heap.size w1 wE by repeat (first | (with_reducible assumption) | (with_reducible exact Below.refl _ _) | (with_reducible apply below_alloc) | (with_reducible apply below_drewN) | (with_reducible apply Below.drew) | (with_reducible refine below_set ?_ (by dsimp only; omega) _) | (with_reducible refine below_trans ?_ (by assumption)))).size)
          · exact (show Below w1.heap.size w1 wS by repeat (first | (with_reducible assumption) | (with_reducible exact Below.refl _ _) | (with_reducible apply below_alloc) | (with_reducible apply below_drewN) | (with_reducible apply Below.drew) | (with_reducible refine below_set ?_ (by dsimp only; omega) _) | (with_reducible refine below_trans ?_ (by assumption))))
  obtain ⟨z0, S1, s1, S2, s2, S3, s3, rfl, z4, r1, r2, r3, hz0, b14⟩ := hcut
  obtain ⟨W4, hW4⟩ : ∃ W4, W4 = wc := ⟨_, rfl⟩
  subst hW4
  have zl4 := z4.lt
  have bw4 : Below w.heap.size w W4 := below_trans bw1 b14
  have x3 := x1
  have v4 := v1.below b14
  have vl4 := v4.lt
  have b4 := b14
  clear hb1 e_0 e_1 e_2 v_0 v_1 v_2 v_3 v_4 v_5
  have x4 := x3.below b4
  have e_0 := x4.cell (j := 0) rfl
  have e_1 := x4.cell (j := 1) rfl
  have e_2 := x4.cell (j := 2) rfl
  go_wp2_with fail
  clear e_0 e_1 e_2
  -- the argument of the program
  refine (toCluster_c n A0 c0 A1 c1 A2 c2 W4 (h0.below bw4) (h1.below bw4) (h2.below bw4) ht).mono ?_
  rintro e w5 ⟨G0, G1, G2, rfl, ⟨fp, nd, ow⟩, hb5⟩
  obtain ⟨f0, f1, f2, rfl, hP⟩ := ownCluster_parts ow nd
  clear ow nd
  have k0 := hP.1.in
  have k1 := hP.2.1.in
  have k2 := hP.2.2.1.in
  have ndP := hP.2.2.2
  go_upto_region 7 with fail
  refine at_world (fun W => Blk W w5.heap.size 42 [.slice (some ⟨G0, 0, none⟩) n.Nodes.length n.Nodes.length, .slice (some ⟨G1, 0, none⟩) n.Mails.length n.Mails.length, .slice (some ⟨G2, 0, none⟩) n.Sealed.length n.Sealed.length] ∧ Below w5.heap.size w5 W ∧ w5.heap.size < W.heap.size) ⟨blk_alloc w5 [.slice (some ⟨G0, 0, none⟩) n.Nodes.length n.Nodes.length, .slice (some ⟨G1, 0, none⟩) n.Mails.length n.Mails.length, .slice (some ⟨G2, 0, none⟩) n.Sealed.length n.Sealed.length] _, below_alloc (Below.refl _ _) _, by rw [Deep.nblk_alloc]; omega⟩ ?_
  rintro W6 ⟨y6, b6, l6⟩
  have b46 := below_trans hb5 b6
  have l5 := hb5.size
  have p6 : HasCluster W4.heap.size W6 n (some ⟨G0, 0, none⟩) n.Nodes.length (some ⟨G1, 0, none⟩) n.Mails.length (some ⟨G2, 0, none⟩) n.Sealed.length f0 f1 f2 := ⟨OwnS.keep hP.1 (fun b hb => b6.block b (k0 b hb).2), OwnS.keep hP.2.1 (fun b hb => b6.block b (k1 b hb).2), OwnS.keep hP.2.2.1 (fun b hb => b6.block b (k2 b hb).2), ndP⟩
  clear hP
  have x6 := x4.below b46
  have z6 := z4.below b46
  have v6 := v4.below b46
  have yl6 := y6.lt
  have vl6 := v6.lt
  have y_0 := y6.cell (j := 0) rfl
  have y_1 := y6.cell (j := 1) rfl
  have y_2 := y6.cell (j := 2) rfl
  have v_0 := v6.cell (j := 0) rfl
  have v_1 := v6.cell (j := 1) rfl
  have v_2 := v6.cell (j := 2) rfl
  have v_3 := v6.cell (j := 3) rfl
  have v_4 := v6.cell (j := 4) rfl
  have v_5 := v6.cell (j := 5) rfl
  go_cut [10] (fun s W => AnsO X W6 s W)
  case first =>
    go_region_with (first | (go_at_call 45; refine (toEntry_c x _).mono ?_; rintro e wE ⟨rfl, hbE⟩; have yE := y6.below (show Below W6.heap.size W6 wE by repeat (first | (with_reducible assumption) | (with_reducible exact Below.refl _ _) | (with_reducible apply below_alloc) | (with_reducible apply below_drewN) | (with_reducible apply Below.drew) | (with_reducible refine below_set ?_ (by dsimp only; omega) _) | (with_reducible refine below_trans ?_ (by assumption)))); have ye0 := yE.cell (j := 0) rfl; have ye1 := yE.cell (j := 1) rfl; have ye2 := yE.cell (j := 2) rfl; have yEl := yE.lt; (first | (have kk := (blk_alloc _ [.int .i64 0, .slice none 0 0, .slice none 0 0, .slice none 0 0] 74).below hbE) | (have kk := (blk_alloc_drew _ [.int .i64 0, .slice none 0 0, .slice none 0 0, .slice none 0 0] 74).below hbE) | (have kk := kk.below hbE) | skip); (try simp only [size_drew] at kk); (first | (have kc0 := kk.cell (j := 0) rfl; have kc1 := kk.cell (j := 1) rfl; have kc2 := kk.cell (j := 2) rfl; have kc3 := kk.cell (j := 3) rfl; have kf0 := kk.frozen 0; have kf1 := kk.frozen 1; have kf2 := kk.frozen 2; have kf3 := kk.frozen 3) | skip)) | (go_at_call 46; (first | have hgB := kk.lt | skip); refine (HI.out _ _ _ _ _ _ _ ((ownS_rds p6.1).1.below (by repeat (first | (with_reducible assumption) | (with_reducible exact Below.refl _ _) | (with_reducible apply below_alloc) | (with_reducible apply below_drewN) | (with_reducible apply Below.drew) | (with_reducible refine below_set ?_ (by dsimp only; omega) _) | (with_reducible refine below_trans ?_ (by assumption))))) ((ownS_rds p6.2.1).1.below (by repeat (first | (with_reducible assumption) | (with_reducible exact Below.refl _ _) | (with_reducible apply below_alloc) | (with_reducible apply below_drewN) | (with_reducible apply Below.drew) | (with_reducible refine below_set ?_ (by dsimp only; omega) _) | (with_reducible refine below_trans ?_ (by assumption))))) ((ownS_rds p6.2.2.1).1.below (by repeat (first | (with_reducible assumption) | (with_reducible exact Below.refl _ _) | (with_reducible apply below_alloc) | (with_reducible apply below_drewN) | (with_reducible apply Below.drew) | (with_reducible refine below_set ?_ (by dsimp only; omega) _) | (with_reducible refine below_trans ?_ (by assumption)))))).mono ?_; rintro e wS ⟨P1, a1, P2, a2, P3, a3, g1, g2, g3, rfl, hS, hbS⟩; (first | (have kk := (blk_alloc _ [.int .i64 0, .slice none 0 0, .slice none 0 0, .slice none 0 0] 74).below hbS) | (have kk := (blk_alloc_drew _ [.int .i64 0, .slice none 0 0, .slice none 0 0, .slice none 0 0] 74).below hbS) | (have kk := kk.below hbS) | skip); (try simp only [size_drew] at kk); (first | (have kc0 := kk.cell (j := 0) rfl; have kc1 := kk.cell (j := 1) rfl; have kc2 := kk.cell (j := 2) rfl; have kc3 := kk.cell (j := 3) rfl; have kf0 := kk.frozen 0; have kf1 := kk.frozen 1; have kf2 := kk.frozen 2; have kf3 := kk.frozen 3) | skip)))
    all_goals (go_wp2_with fail)
    all_goals (go_meet)
    all_goals
      first
        | (with_reducible refine ansO_late hS ?_ ?_)
          · exact (show Below W6.heap.size W6 wE by repeat (first | (with_reducible assumption) | (with_reducible exact Below.refl _ _) | (with_reducible apply below_alloc) | (with_reducible apply below_drewN) | (with_reducible apply Below.drew) | (with_reducible refine below_set ?_ (by dsimp only; omega) _) | (with_reducible refine below_trans ?_ (by assumption)))).size
          · exact (show Below W6.heap.size W6 wS by repeat (first | (with_reducible assumption) | (with_reducible exact Below.refl _ _) | (with_reducible apply below_alloc) | (with_reducible apply below_drewN) | (with_reducible apply Below.drew) | (with_reducible refine below_set ?_ (by dsimp only; omega) _) | (with_reducible refine below_trans ?_ (by assumption))))
        | (with_reducible refine ansO_early kk hS ?_ ?_ ?_)
          · first | exact hgB | (simp only [size_drew, Deep.nblk_alloc]; omega)
          · first | (with_reducible exact Nat.le_refl _) | (with_reducible exact (show Below W6.heap.size W6 wT by repeat (first | (with_reducible assumption) | (with_reducible exact Below.refl _ _) | (with_reducible apply below_alloc) | (with_reducible apply below_drewN) | (with_reducible apply Below.drew) | (with_reducible refine below_set ?_ (by dsimp only; omega) _) | (with_reducible refine below_trans ?_ (by assumption)))).size) | (with_reducible exact (show Below W6.heap.size W6 wE by repeat (first | (with_reducible assumption) | (with_reducible exact Below.refl _ _) | (with_reducible apply below_alloc) | (with_reducible apply below_drewN) | (with_reducible apply Below.drew) | (with_reducible refine below_set ?_ (by dsimp only; omega) _) | (with_reducible refine below_trans ?_ (by assumption)))).size)
          · exact (show Below W6.heap.size W6 wS by repeat (first | (with_reducible assumption) | (with_reducible exact Below.refl _ _) | (with_reducible apply below_alloc) | (with_reducible apply below_drewN) | (with_reducible apply Below.drew) | (with_reducible refine below_set ?_ (by dsimp only; omega) _) | (with_reducible refine below_trans ?_ (by assumption))))
  obtain ⟨q0, P1, a1, P2, a2, P3, a3, g1, g2, g3, rfl, q8, hG, hq0, hgG, b68⟩ := hcut
  obtain ⟨W8, hW8⟩ : ∃ W8, W8 = wc := ⟨_, rfl⟩
  subst hW8
  obtain ⟨GF1, GF2, GF3, ndG⟩ := hG
  have j1 := GF1.in
  have j2 := GF2.in
  have j3 := GF3.in
  have b48 := below_trans b46 b68
  have b38 := b48
  have v8 := v6.below b68
  clear y_0 y_1 y_2 v_0 v_1 v_2 v_3 v_4 v_5
  have x8 := x6.below b68
  have y8 := y6.below b68
  have z8 := z6.below b68
  have p8 : HasCluster W4.heap.size W8 n (some ⟨G0, 0, none⟩) n.Nodes.length (some ⟨G1, 0, none⟩) n.Mails.length (some ⟨G2, 0, none⟩) n.Sealed.length f0 f1 f2 := ⟨OwnS.keep p6.1 (fun b hb => b68.block b (p6.1.in b hb).2), OwnS.keep p6.2.1 (fun b hb => b68.block b (p6.2.1.in b hb).2), OwnS.keep p6.2.2.1 (fun b hb => b68.block b (p6.2.2.1.in b hb).2), ndP⟩
  clear p6 x6 y6 z6 x4 z4 x3 v6 v4
  have q_0 := q8.cell (j := 0) rfl
  have q_1 := q8.cell (j := 1) rfl
  have q_2 := q8.cell (j := 2) rfl
  have q_3 := q8.cell (j := 3) rfl
  have z_0 := z8.cell (j := 0) rfl
  have z_1 := z8.cell (j := 1) rfl
  have z_2 := z8.cell (j := 2) rfl
  have z_3 := z8.cell (j := 3) rfl
  go_wp2_with fail
  clear q_0 q_1 q_2 q_3
  clear z_0 z_1 z_2 z_3
  refine (eqClusterResult_c X P1 a1 P2 a2 P3 a3 S1 s1 S2 s2 S3 s3 W8 (ownS_rds GF1).1 (ownS_rds GF2).1 (ownS_rds GF3).1 (r1.below b38) (r2.below b38) (r3.below b38)).mono ?_
  rintro e w9 ⟨rfl, hb9⟩
  have x9 := x8.below hb9
  have y9 := y8.below hb9
  have bw9 : Below w.heap.size w w9 := below_trans (below_trans bw4 b38) hb9
  have xl9 := x9.lt
  have yl9 := y9.lt
  have e_0 := x9.cell (j := 0) rfl
  have e_1 := x9.cell (j := 1) rfl
  have e_2 := x9.cell (j := 2) rfl
  have y_0 := y9.cell (j := 0) rfl
  have y_1 := y9.cell (j := 1) rfl
  have y_2 := y9.cell (j := 2) rfl
  go_upto_region 10 with fail
  go_cut [41] (fun s W => s = .bool false ∧ Below w9.heap.size w9 W)
  case first =>
    go_region_with (first | (go_at_call 44; refine (toCluster_c n A0 c0 A1 c1 A2 c2 _ (h0.below (by repeat (first | (with_reducible assumption) | (with_reducible exact Below.refl _ _) | (with_reducible apply below_alloc) | (with_reducible apply below_drewN) | (with_reducible apply Below.drew) | (with_reducible refine below_set ?_ (by dsimp only; omega) _) | (with_reducible refine below_trans ?_ (by assumption))))) (h1.below (by repeat (first | (with_reducible assumption) | (with_reducible exact Below.refl _ _) | (with_reducible apply below_alloc) | (with_reducible apply below_drewN) | (with_reducible apply Below.drew) | (with_reducible refine below_set ?_ (by dsimp only; omega) _) | (with_reducible refine below_trans ?_ (by assumption))))) (h2.below (by repeat (first | (with_reducible assumption) | (with_reducible exact Below.refl _ _) | (with_reducible apply below_alloc) | (with_reducible apply below_drewN) | (with_reducible apply Below.drew) | (with_reducible refine below_set ?_ (by dsimp only; omega) _) | (with_reducible refine below_trans ?_ (by assumption))))) ht).mono ?_; rintro e w10 ⟨K0, K1, K2, rfl, ⟨fq, nq, oq⟩, hb10⟩; obtain ⟨m0, m1, m2, rfl, hK⟩ := ownCluster_parts oq nq; have b10 : Below w9.heap.size w9 w10 := below_trans (Below.refl _ _).drew hb10; have y10 := y9.below b10; have t0 := y10.cell (j := 0) rfl; have t1 := y10.cell (j := 1) rfl; have t2 := y10.cell (j := 2) rfl; have b910 := below_trans hb9 b10) | (go_at_call 48; refine (eqCluster_c n _ _ _ _ _ _ _ _ _ _ _ _ _ ((ownS_rds p8.1).1.below b910) ((ownS_rds p8.2.1).1.below b910) ((ownS_rds p8.2.2.1).1.below b910) (ownS_rds hK.1).1 (ownS_rds hK.2.1).1 (ownS_rds hK.2.2.1).1).mono ?_; rintro e w11 ⟨rfl, hb11⟩; have b11 : Below w9.heap.size w9 w11 := below_trans b10 hb11))
    all_goals (go_wp2_with fail)
    all_goals (go_meet)
    all_goals (exact ⟨rfl, b11⟩)
  case rest =>
    obtain ⟨rfl, b10⟩ := hcut
    clear e_0 e_1 e_2
    clear y_0 y_1 y_2
    have b810 := below_trans hb9 b10
    have b310 := below_trans b38 b810
    have bw10 := below_trans bw4 b310
    have x10 := x9.below b10
    have y10 := y9.below b10
    have v10 := v8.below b810
    have q10 := q8.below b810
    have z10 := z8.below b810
    have p10 : HasCluster W4.heap.size wc n (some ⟨G0, 0, none⟩) n.Nodes.length (some ⟨G1, 0, none⟩) n.Mails.length (some ⟨G2, 0, none⟩) n.Sealed.length f0 f1 f2 := ⟨OwnS.bel' p8.1 b810, OwnS.bel' p8.2.1 b810, OwnS.bel' p8.2.2.1 b810, ndP⟩
    clear p8 x8 y8 q8 z8 x9 y9
    replace GF1 := OwnS.bel' GF1 b810
    replace GF2 := OwnS.bel' GF2 b810
    replace GF3 := OwnS.bel' GF3 b810
    have sz10 := b810.size
    have sz38 := b38.size
    have sz3 := bw4.size
    have sz1 := b14.size
    have szl6 := l6
    have hF : ∀ b ∈ (f0 ++ (f1 ++ f2)), W4.heap.size ≤ b ∧ b < w5.heap.size := by
      intro b hb
      simp only [List.mem_append] at hb
      rcases hb with h | h | h <;> first | exact k0 b h | exact k1 b h | exact k2 b h
    have hG : ∀ b ∈ (g1 ++ (g2 ++ g3)), W6.heap.size ≤ b ∧ b < W8.heap.size := by
      intro b hb
      simp only [List.mem_append] at hb
      rcases hb with h | h | h <;> first | exact j1 b h | exact j2 b h | exact j3 b h
    -- the argument is marked
    have y_0 := y10.cell (j := 0) rfl
    have y_1 := y10.cell (j := 1) rfl
    have y_2 := y10.cell (j := 2) rfl
    go_wp2_with fail
    clear y_0 y_1 y_2
    obtain ⟨pp0, pp1, pp2, -⟩ := p10
    with_reducible refine (markCluster_c n _ _ _ _ _ _ 1 W4.heap.size f0 f1 f2 wc pp0 pp1 pp2 ndP (by omega) (by omega)).mono ?_
    intro e w11 h
    obtain ⟨v7, hv7, rfl, hT⟩ : ∃ z : Int, 0 ≤ z ∧ e = .returned (.int .i64 z) ∧ Turn (f0 ++ (f1 ++ f2)) wc w11 := ⟨_, by omega, h.1, h.2.2.2.2⟩
    have hd7 : decide (v7 < 0) = false := decide_eq_false (by omega)
    clear h pp0 pp1 pp2 hv7 y10
    have sz11 := hT.size
    replace GF1 := OwnS.turn GF1 hT (fun b hb hm => by have := j1 b hb; have := hF b hm; omega)
    replace GF2 := OwnS.turn GF2 hT (fun b hb hm => by have := j2 b hb; have := hF b hm; omega)
    replace GF3 := OwnS.turn GF3 hT (fun b hb hm => by have := j3 b hb; have := hF b hm; omega)
    have v11 := v10.turn hT (fun hm => by have := hF _ hm; omega)
    have x11 := x10.turn hT (fun hm => by have := hF _ hm; omega)
    have q11 := q10.turn hT (fun hm => by have := hF _ hm; omega)
    have z11 := z10.turn hT (fun hm => by have := hF _ hm; omega)
    have b311 := b310.trans (hT.below (B := W4.heap.size) (fun b hb => by have := hF b hb; omega) (by omega))
    have bw11 := bw10.trans (hT.below (B := w.heap.size) (fun b hb => by have := hF b hb; omega) (by omega))
    clear x10 q10 z10 hT
    have q_0 := q11.cell (j := 0) rfl
    have q_1 := q11.cell (j := 1) rfl
    have q_2 := q11.cell (j := 2) rfl
    have q_3 := q11.cell (j := 3) rfl
    have z_0 := z11.cell (j := 0) rfl
    have z_1 := z11.cell (j := 1) rfl
    have z_2 := z11.cell (j := 2) rfl
    have z_3 := z11.cell (j := 3) rfl
    go_wp2_with fail
    clear q_0 q_1 q_2 q_3
    clear z_0 z_1 z_2 z_3
    with_reducible refine (eqClusterResult_c X P1 a1 P2 a2 P3 a3 S1 s1 S2 s2 S3 s3 w11 (ownS_rds GF1).1 (ownS_rds GF2).1 (ownS_rds GF3).1 (r1.below b311) (r2.below b311) (r3.below b311)).mono ?_
    rintro e w12 ⟨rfl, hb12⟩
    replace GF1 := OwnS.bel' GF1 hb12
    replace GF2 := OwnS.bel' GF2 hb12
    replace GF3 := OwnS.bel' GF3 hb12
    have x12 := x11.below hb12
    have v12 := v11.below hb12
    have q12 := q11.below hb12
    have z12 := z11.below hb12
    have b312 := below_trans b311 hb12
    have bw12 := below_trans bw11 hb12
    have sz12 := hb12.size
    clear x11 q11 z11
    have q_0 := q12.cell (j := 0) rfl
    have q_1 := q12.cell (j := 1) rfl
    have q_2 := q12.cell (j := 2) rfl
    have q_3 := q12.cell (j := 3) rfl
    go_wp2_with fail
    clear q_0 q_1 q_2 q_3
    with_reducible refine (markClusterResult_c X P1 a1 P2 a2 P3 a3 1 W6.heap.size g1 g2 g3 w12 GF1 GF2 GF3 ndG (by omega) (by omega)).mono ?_
    intro e w13 h
    obtain ⟨v8, hv8, h8', rfl, MF1, MF2, MF3, hU⟩ : ∃ z : Int, Hid (1 + ↑(ctL ctReplica X.Cluster.Nodes) + ↑(ctL ctMail X.Cluster.Mails) + ↑(ctL ctEntry X.Cluster.Sealed) = z) ∧ 0 ≤ z ∧ e = .returned (.int .i64 z) ∧ _ := ⟨_, Lib.hid rfl, by omega, h.1, h.2⟩
    have hd8 : decide (v8 < 0) = false := decide_eq_false (by omega)
    clear h GF1 GF2 GF3
    have sz13 := hU.size
    have v13 := v12.turn hU (fun hm => by have := hG _ hm; omega)
    have x13 := x12.turn hU (fun hm => by have := hG _ hm; omega)
    have q13 := q12.turn hU hgG
    have z13 := z12.turn hU (fun hm => by have := hG _ hm; omega)
    have b313 := b312.trans (hU.below (B := W4.heap.size) (fun b hb => by have := hG b hb; omega) (by omega))
    have bw13 := bw12.trans (hU.below (B := w.heap.size) (fun b hb => by have := hG b hb; omega) (by omega))
    clear x12 q12 z12 hU
    have q_0 := q13.cell (j := 0) rfl
    have q_1 := q13.cell (j := 1) rfl
    have q_2 := q13.cell (j := 2) rfl
    have q_3 := q13.cell (j := 3) rfl
    go_wp2_with fail
    clear q_0 q_1 q_2 q_3
    with_reducible refine (heldClusterResult_c X P1 a1 P2 a2 P3 a3 1 w13 (ownS_rds MF1).1 (ownS_rds MF2).1 (ownS_rds MF3).1 (by omega) (by omega)).mono ?_
    intro e w14 h
    obtain ⟨rfl, hb14⟩ : e = .returned (.int .i64 v8) ∧ Below w13.heap.size w13 w14 := ⟨by rw [h.1, hv8.out], h.2⟩
    clear h
    have x14 := x13.below hb14
    have v14 := v13.below hb14
    have q14 := q13.below hb14
    have z14 := z13.below hb14
    replace MF1 := OwnS.bel' MF1 hb14
    replace MF2 := OwnS.bel' MF2 hb14
    replace MF3 := OwnS.bel' MF3 hb14
    have b314 := below_trans b313 hb14
    have bw14 := below_trans bw13 hb14
    clear x13 q13 z13
    have xl14 := x14.lt
    have vl14 := v14.lt
    have e_0 := x14.cell (j := 0) rfl
    have e_1 := x14.cell (j := 1) rfl
    have e_2 := x14.cell (j := 2) rfl
    have v_0 := v14.cell (j := 0) rfl
    have v_1 := v14.cell (j := 1) rfl
    have v_2 := v14.cell (j := 2) rfl
    have v_3 := v14.cell (j := 3) rfl
    have v_4 := v14.cell (j := 4) rfl
    have v_5 := v14.cell (j := 5) rfl
    go_upto_region 24 with fail
    go_cut [14] (fun s W => AnsR X w14 s W)
    case first =>
      go_region_with (first | (go_at_call 44; refine (toCluster_c n A0 c0 A1 c1 A2 c2 _ (h0.below (by repeat (first | (with_reducible assumption) | (with_reducible exact Below.refl _ _) | (with_reducible apply below_alloc) | (with_reducible apply below_drewN) | (with_reducible apply Below.drew) | (with_reducible refine below_set ?_ (by dsimp only; omega) _) | (with_reducible refine below_trans ?_ (by assumption))))) (h1.below (by repeat (first | (with_reducible assumption) | (with_reducible exact Below.refl _ _) | (with_reducible apply below_alloc) | (with_reducible apply below_drewN) | (with_reducible apply Below.drew) | (with_reducible refine below_set ?_ (by dsimp only; omega) _) | (with_reducible refine below_trans ?_ (by assumption))))) (h2.below (by repeat (first | (with_reducible assumption) | (with_reducible exact Below.refl _ _) | (with_reducible apply below_alloc) | (with_reducible apply below_drewN) | (with_reducible apply Below.drew) | (with_reducible refine below_set ?_ (by dsimp only; omega) _) | (with_reducible refine below_trans ?_ (by assumption))))) ht).mono ?_; rintro e wT ⟨G0, G1, G2, rfl, ⟨fp, nd, ow⟩, hbT⟩; obtain ⟨f0, f1, f2, rfl, hP⟩ := ownCluster_parts ow nd; have vT := v14.below (show Below w14.heap.size w14 wT by repeat (first | (with_reducible assumption) | (with_reducible exact Below.refl _ _) | (with_reducible apply below_alloc) | (with_reducible apply below_drewN) | (with_reducible apply Below.drew) | (with_reducible refine below_set ?_ (by dsimp only; omega) _) | (with_reducible refine below_trans ?_ (by assumption)))); have vt0 := vT.cell (j := 0) rfl; have vt1 := vT.cell (j := 1) rfl; have vt2 := vT.cell (j := 2) rfl; have vt3 := vT.cell (j := 3) rfl; have vt4 := vT.cell (j := 4) rfl; have vt5 := vT.cell (j := 5) rfl; have vTl := vT.lt; (first | (have kk := (blk_alloc _ [.int .i64 0, .slice none 0 0, .slice none 0 0, .slice none 0 0] 74).below hbT) | (have kk := (blk_alloc_drew _ [.int .i64 0, .slice none 0 0, .slice none 0 0, .slice none 0 0] 74).below hbT) | (have kk := kk.below hbT) | skip); (try simp only [size_drew] at kk); (first | (have kc0 := kk.cell (j := 0) rfl; have kc1 := kk.cell (j := 1) rfl; have kc2 := kk.cell (j := 2) rfl; have kc3 := kk.cell (j := 3) rfl; have kf0 := kk.frozen 0; have kf1 := kk.frozen 1; have kf2 := kk.frozen 2; have kf3 := kk.frozen 3) | skip)) | (go_at_call 45; refine (toEntry_c x _).mono ?_; rintro e wE ⟨rfl, hbE⟩; have xE := x14.below (show Below w14.heap.size w14 wE by repeat (first | (with_reducible assumption) | (with_reducible exact Below.refl _ _) | (with_reducible apply below_alloc) | (with_reducible apply below_drewN) | (with_reducible apply Below.drew) | (with_reducible refine below_set ?_ (by dsimp only; omega) _) | (with_reducible refine below_trans ?_ (by assumption)))); have xe0 := xE.cell (j := 0) rfl; have xe1 := xE.cell (j := 1) rfl; have xe2 := xE.cell (j := 2) rfl; have xEl := xE.lt; (first | (have kk := (blk_alloc _ [.int .i64 0, .slice none 0 0, .slice none 0 0, .slice none 0 0] 74).below hbE) | (have kk := (blk_alloc_drew _ [.int .i64 0, .slice none 0 0, .slice none 0 0, .slice none 0 0] 74).below hbE) | (have kk := kk.below hbE) | skip); (try simp only [size_drew] at kk); (first | (have kc0 := kk.cell (j := 0) rfl; have kc1 := kk.cell (j := 1) rfl; have kc2 := kk.cell (j := 2) rfl; have kc3 := kk.cell (j := 3) rfl; have kf0 := kk.frozen 0; have kf1 := kk.frozen 1; have kf2 := kk.frozen 2; have kf3 := kk.frozen 3) | skip)) | (go_at_call 46; (first | have hgB := kk.lt | skip); refine (HI.out _ _ _ _ _ _ _ ((ownS_rds hP.1).1.below (by repeat (first | (with_reducible assumption) | (with_reducible exact Below.refl _ _) | (with_reducible apply below_alloc) | (with_reducible apply below_drewN) | (with_reducible apply Below.drew) | (with_reducible refine below_set ?_ (by dsimp only; omega) _) | (with_reducible refine below_trans ?_ (by assumption))))) ((ownS_rds hP.2.1).1.below (by repeat (first | (with_reducible assumption) | (with_reducible exact Below.refl _ _) | (with_reducible apply below_alloc) | (with_reducible apply below_drewN) | (with_reducible apply Below.drew) | (with_reducible refine below_set ?_ (by dsimp only; omega) _) | (with_reducible refine below_trans ?_ (by assumption))))) ((ownS_rds hP.2.2.1).1.below (by repeat (first | (with_reducible assumption) | (with_reducible exact Below.refl _ _) | (with_reducible apply below_alloc) | (with_reducible apply below_drewN) | (with_reducible apply Below.drew) | (with_reducible refine below_set ?_ (by dsimp only; omega) _) | (with_reducible refine below_trans ?_ (by assumption)))))).mono ?_; rintro e wS ⟨R1, d1, R2, d2, R3, d3, u1, u2, u3, rfl, hS, hbS⟩; (first | (have kk := (blk_alloc _ [.int .i64 0, .slice none 0 0, .slice none 0 0, .slice none 0 0] 74).below hbS) | (have kk := (blk_alloc_drew _ [.int .i64 0, .slice none 0 0, .slice none 0 0, .slice none 0 0] 74).below hbS) | (have kk := kk.below hbS) | skip); (try simp only [size_drew] at kk); (first | (have kc0 := kk.cell (j := 0) rfl; have kc1 := kk.cell (j := 1) rfl; have kc2 := kk.cell (j := 2) rfl; have kc3 := kk.cell (j := 3) rfl; have kf0 := kk.frozen 0; have kf1 := kk.frozen 1; have kf2 := kk.frozen 2; have kf3 := kk.frozen 3) | skip)))
      all_goals (go_wp2_with fail)
      all_goals (go_meet)
      all_goals
        first
          | (with_reducible refine ansR_late hS ?_)
            exact (show Below w14.heap.size w14 wS by repeat (first | (with_reducible assumption) | (with_reducible exact Below.refl _ _) | (with_reducible apply below_alloc) | (with_reducible apply below_drewN) | (with_reducible apply Below.drew) | (with_reducible refine below_set ?_ (by dsimp only; omega) _) | (with_reducible refine below_trans ?_ (by assumption))))
          | (with_reducible refine ansR_early kk hS ?_ ?_ ?_)
            · first | exact hgB | (simp only [size_drew, Deep.nblk_alloc]; omega)
            · first | (with_reducible exact Nat.le_refl _) | (with_reducible exact (show Below w14.heap.size w14 wT by repeat (first | (with_reducible assumption) | (with_reducible exact Below.refl _ _) | (with_reducible apply below_alloc) | (with_reducible apply below_drewN) | (with_reducible apply Below.drew) | (with_reducible refine below_set ?_ (by dsimp only; omega) _) | (with_reducible refine below_trans ?_ (by assumption)))).size) | (with_reducible exact (show Below w14.heap.size w14 wE by repeat (first | (with_reducible assumption) | (with_reducible exact Below.refl _ _) | (with_reducible apply below_alloc) | (with_reducible apply below_drewN) | (with_reducible apply Below.drew) | (with_reducible refine below_set ?_ (by dsimp only; omega) _) | (with_reducible refine below_trans ?_ (by assumption)))).size)
            · exact (show Below w14.heap.size w14 wS by repeat (first | (with_reducible assumption) | (with_reducible exact Below.refl _ _) | (with_reducible apply below_alloc) | (with_reducible apply below_drewN) | (with_reducible apply Below.drew) | (with_reducible refine below_set ?_ (by dsimp only; omega) _) | (with_reducible refine below_trans ?_ (by assumption))))
    obtain ⟨t0, R1, d1, R2, d2, R3, d3, rfl, t17, o1, o2, o3, ht0, b1417⟩ := hcut
    obtain ⟨W17, hW17⟩ : ∃ W17, W17 = wc := ⟨_, rfl⟩
    subst hW17
    clear e_0 e_1 e_2 v_0 v_1 v_2 v_3 v_4 v_5
    have q17 := q14.below b1417
    have z17 := z14.below b1417
    replace MF1 := OwnS.bel' MF1 b1417
    replace MF2 := OwnS.bel' MF2 b1417
    replace MF3 := OwnS.bel' MF3 b1417
    have b317 := below_trans b314 b1417
    have bw17 := below_trans bw14 b1417
    clear x14 q14 z14
    have t_0 := t17.cell (j := 0) rfl
    have t_1 := t17.cell (j := 1) rfl
    have t_2 := t17.cell (j := 2) rfl
    have t_3 := t17.cell (j := 3) rfl
    have z_0 := z17.cell (j := 0) rfl
    have z_1 := z17.cell (j := 1) rfl
    have z_2 := z17.cell (j := 2) rfl
    have z_3 := z17.cell (j := 3) rfl
    go_wp2_with fail
    clear t_0 t_1 t_2 t_3
    clear z_0 z_1 z_2 z_3
    with_reducible refine (eqClusterResult_c X R1 d1 R2 d2 R3 d3 S1 s1 S2 s2 S3 s3 W17 o1 o2 o3 (r1.below b317) (r2.below b317) (r3.below b317)).mono ?_
    rintro e w18 ⟨rfl, hb18⟩
    have q18 := q17.below hb18
    have bw18 := below_trans bw17 hb18
    replace MF1 := OwnS.bel' MF1 hb18
    replace MF2 := OwnS.bel' MF2 hb18
    replace MF3 := OwnS.bel' MF3 hb18
    clear q17 z17
    have q_0 := q18.cell (j := 0) rfl
    have q_1 := q18.cell (j := 1) rfl
    have q_2 := q18.cell (j := 2) rfl
    have q_3 := q18.cell (j := 3) rfl
    go_wp2_with fail
    clear q_0 q_1 q_2 q_3
    with_reducible refine (heldClusterResult_c X P1 a1 P2 a2 P3 a3 1 w18 (ownS_rds MF1).1 (ownS_rds MF2).1 (ownS_rds MF3).1 (by omega) (by omega)).mono ?_
    intro e w19 h
    obtain ⟨rfl, hb19⟩ : e = .returned (.int .i64 v8) ∧ Below w18.heap.size w18 w19 := ⟨by rw [h.1, hv8.out], h.2⟩
    clear h
    have bw19 := below_trans bw18 hb19
    go_wp2_with fail
    go_ret
    exact ⟨rfl, bw19⟩
end Go.Proofs.YtoohhkmlgmeolaaGreat
