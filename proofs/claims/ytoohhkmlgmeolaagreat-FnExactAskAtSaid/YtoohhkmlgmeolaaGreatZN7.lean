/- AskAt: the program's and the reference's (written by gN7.py, own work). -/
import Derived.Test.YtoohhkmlgmeolaaGreatZN7p
set_option linter.unusedVariables false
set_option linter.unusedSimpArgs false
namespace Go.Proofs.YtoohhkmlgmeolaaGreat
open Go Go.RowKit Mk
theorem sAskReplica_c (x : SEntry) (n : SReplica) (A5 : Option Addr) (c5 : Nat) (A7 : Option Addr) (c7 : Nat) (A8 : Option Addr) (c8 : Nat) (A9 : Option Addr) (c9 : Nat) (w : World) (h5 : RdS kEntry w A5 c5 n.Log) (h7 : RdS kInt w A7 c7 n.Oks) (h8 : RdS kBool w A8 c8 n.Asks) (h9 : RdS kDoer w A9 c9 n.Doers) :
    Calls Tryz.prog 122 #[.agg #[.int .i64 n.Id, .int .i64 n.Size, .int .i64 n.View, .bool n.Normal, .int .i64 n.Last, .slice A5 n.Log.length c5, .int .i64 n.Commit, .slice A7 n.Oks.length c7, .slice A8 n.Asks.length c8, .slice A9 n.Doers.length c9], .agg #[.int .i64 x.Client, .int .i64 x.Seq, .int .i64 x.Op.Kind, .int .i64 x.Op.Vol, .int .i64 x.Op.At, .int .i64 x.Op.Value]] w fun r w' => LaidRR (askX x n) w r w' := by
  cases q : (repF n != 0) with
  | true => rw [show askX x n = ⟨repF n, zReplica, []⟩ by unfold askX; rw [q, if_pos rfl]]; exact sAsk_bad n x A5 c5 A7 c7 A8 c8 A9 c9 w h5 h7 h8 h9 q
  | false =>
    rcases askX_code x n q with ⟨q1, e⟩ | ⟨q1, q2, e⟩ | ⟨q1, q2, q3, e⟩ | ⟨q1, q2, q3, e⟩
    · rw [e]; exact sAsk_idle n x A5 c5 A7 c7 A8 c8 A9 c9 w h5 h7 h8 h9 q q1
    · rw [e]; exact sAsk_wrong n x A5 c5 A7 c7 A8 c8 A9 c9 w h5 h7 h8 h9 q q1 q2
    · rw [e]; exact sAsk_full n x A5 c5 A7 c7 A8 c8 A9 c9 w h5 h7 h8 h9 q q1 q2 q3
    · rw [e]; exact sAsk_did n x A5 c5 A7 c7 A8 c8 A9 c9 w h5 h7 h8 h9 q q1 q2 q3 _ _ _ (repF_nums q) (repF_oks q q1).1
set_option maxRecDepth 100000 in
set_option maxHeartbeats 4000000 in
theorem ask1_c (b : Nat) (q : Addr) (x : SEntry) (n' : SReplica) (ms : List SMail) (code : Int) (fp : List Nat) (B : Nat) (w : World) (hx : At kEntry w q x) (hadd : Calls Tryz.prog 129 #[.pointer (some ⟨b, 0, none⟩), .agg #[.int .i64 x.Client, .int .i64 x.Seq, .int .i64 x.Op.Kind, .int .i64 x.Op.Vol, .int .i64 x.Op.At, .int .i64 x.Op.Value]] w fun r w' => DidBox b n' ms code fp B w r w') :
    Calls Tryz.prog 128 #[.pointer (some ⟨b, 0, none⟩), .pointer (some q)] w fun r w' => DidBox b n' ms code fp B w r w' := by
  obtain ⟨q0, q1, q2, q3, q4, q5⟩ := atEntry hx
  have HA := Lib.hid hadd
  clear hadd hx
  go_enter Tryz.func128, Tryz.ntmps128
  go_wp2_with fail
  clear q0 q1 q2 q3 q4 q5
  refine HA.out.mono ?_
  rintro r w1 ⟨A5, c5, A7, c7, A8, c8, A9, c9, f5, f7, f8, f9, As, cs, fs, rfl, hrest⟩
  have HR := Lib.hid hrest
  clear hrest HA
  go_wp2_with fail
  refine bodyPost_ret (v := .tuple #[.slice As ms.length cs, .int .i64 code]) (by simp [results, Tryz.results128, go_sem]) rfl ?_
  exact ⟨A5, c5, A7, c7, A8, c8, A9, c9, f5, f7, f8, f9, As, cs, fs, rfl, HR.out⟩
theorem ask_verb (q : Addr) (x : SEntry) (w : World) (hx : At kEntry w q x) : VerbOf 128 #[.pointer (some q)] (askX x) w := fun n h => by
  have hf := repF_nums h
  refine ⟨ask_fits x n h, fun hq => ?_, fun hq => ?_⟩
  · rcases askX_code x n h with ⟨q1, e⟩ | ⟨q1, q2, e⟩ | ⟨q1, q2, q3, e⟩ | ⟨q1, q2, q3, e⟩
    · rw [e]; exact ⟨n, [], fun b A5 c5 A7 c7 A8 c8 A9 c9 f5 f7 f8 f9 B W hW hB hn hb hBw => ask1_c b q x n [] 10 _ B W (hx.below hW) (add_idle b n x A5 c5 A7 c7 A8 c8 A9 c9 f5 f7 f8 f9 B W hB hn hb hBw h q1)⟩
    · rw [e]; exact ⟨n, [], fun b A5 c5 A7 c7 A8 c8 A9 c9 f5 f7 f8 f9 B W hW hB hn hb hBw => ask1_c b q x n [] (entryF x) _ B W (hx.below hW) (add_wrong b n x A5 c5 A7 c7 A8 c8 A9 c9 f5 f7 f8 f9 B W hB hn hb hBw h q1 q2)⟩
    · rw [e]; exact ⟨n, [], fun b A5 c5 A7 c7 A8 c8 A9 c9 f5 f7 f8 f9 B W hW hB hn hb hBw => ask1_c b q x n [] 2 _ B W (hx.below hW) (add_full b n x A5 c5 A7 c7 A8 c8 A9 c9 f5 f7 f8 f9 B W hB hn hb hBw h q1 q2 q3)⟩
    · rw [e] at hq; simp at hq
  · rcases askX_code x n h with ⟨q1, e⟩ | ⟨q1, q2, e⟩ | ⟨q1, q2, q3, e⟩ | ⟨q1, q2, q3, e⟩
    · rw [e] at hq; simp at hq
    · rw [e, q2] at hq; cases hq
    · rw [e] at hq; simp at hq
    · rw [e]
      have ho := repF_oks h q1
      exact fun b A5 c5 A7 c7 A8 c8 A9 c9 f5 f7 f8 f9 B W hW hB hn hb hBw => ask1_c b q x _ _ 0 _ B W (hx.below hW) (add_ok b n x _ _ _ A5 c5 A7 c7 A8 c8 A9 c9 f5 f7 f8 f9 B W hB hn hb hBw hf ho.1 ho.2 q1 q2 q3)
set_option maxRecDepth 100000 in
set_option maxHeartbeats 4000000 in
theorem iAskAt_c (c : SCluster) (k : Int) (x : SEntry) (A0 : Option Addr) (c0 : Nat) (A1 : Option Addr) (c1 : Nat) (A2 : Option Addr) (c2 : Nat) (w : World) (h0 : RdS kReplica w A0 c0 c.Nodes) (h1 : RdS kMail w A1 c1 c.Mails) (h2 : RdS kEntry w A2 c2 c.Sealed) :
    Calls Tryz.prog 46 #[.agg #[.slice A0 c.Nodes.length c0, .slice A1 c.Mails.length c1, .slice A2 c.Sealed.length c2], .int .i64 k, .agg #[.int .i64 x.Client, .int .i64 x.Seq, .int .i64 x.Op.Kind, .int .i64 x.Op.Vol, .int .i64 x.Op.At, .int .i64 x.Op.Value]] w fun r w' => LaidClusterResult (atX (askX x) c k) w r w' := by
  have HD := Lib.hid (fun (q : Addr) (W : World) => nodeDone_any 128 #[.pointer (some q)] (Go.Proofs.enters_of Tryz.func128 (by kernel_rfl) rfl) (askX x) c k A0 c0 A1 c1 A2 c2 W)
  have hx0 : At kEntry ((w.alloc (.cells #[.slice A0 c.Nodes.length c0, .slice A1 c.Mails.length c1, .slice A2 c.Sealed.length c2] 42)).alloc (.cells #[.int .i64 x.Client, .int .i64 x.Seq, .int .i64 x.Op.Kind, .int .i64 x.Op.Vol, .int .i64 x.Op.At, .int .i64 x.Op.Value] 57)) ⟨w.heap.size + 1, 0, none⟩ x := by
    have := boxEntry (w.alloc (.cells #[.slice A0 c.Nodes.length c0, .slice A1 c.Mails.length c1, .slice A2 c.Sealed.length c2] 42)) x 57
    rwa [Deep.nblk_alloc] at this
  have HV := Lib.hid (ask_verb ⟨w.heap.size + 1, 0, none⟩ x _ (hx0.below (below_alloc (Below.refl _ _) (.cells #[.int .i64 0, .slice none 0 0, .slice none 0 0, .slice none 0 0] 74))))
  clear hx0
  generalize atX (askX x) c k = X at HD ⊢
  go_enter Tryz.func46, Tryz.ntmps46
  go_wp2_with fail
  refine (HD.out ⟨w.heap.size + 1, 0, none⟩ _ (h0.below (by repeat (first | (with_reducible assumption) | (with_reducible exact Below.refl _ _) | (with_reducible apply below_alloc) | (with_reducible apply below_drewN) | (with_reducible apply Below.drew) | (with_reducible refine below_set ?_ (by dsimp only; omega) _) | (with_reducible refine below_trans ?_ (by assumption))))) (h1.below (by repeat (first | (with_reducible assumption) | (with_reducible exact Below.refl _ _) | (with_reducible apply below_alloc) | (with_reducible apply below_drewN) | (with_reducible apply Below.drew) | (with_reducible refine below_set ?_ (by dsimp only; omega) _) | (with_reducible refine below_trans ?_ (by assumption))))) (h2.below (by repeat (first | (with_reducible assumption) | (with_reducible exact Below.refl _ _) | (with_reducible apply below_alloc) | (with_reducible apply below_drewN) | (with_reducible apply Below.drew) | (with_reducible refine below_set ?_ (by dsimp only; omega) _) | (with_reducible refine below_trans ?_ (by assumption))))) HV.out).mono ?_
  rintro r w1 ⟨P1, a1, P2, a2, P3, a3, p1, p2, p3, rfl, ⟨o1, o2, o3, nd⟩, hb1⟩
  have zB : Blk w1 (w.heap.size + 2) 74 [.int .i64 0, .slice none 0 0, .slice none 0 0, .slice none 0 0] := by
    have := (blk_alloc ((w.alloc (.cells #[.slice A0 c.Nodes.length c0, .slice A1 c.Mails.length c1, .slice A2 c.Sealed.length c2] 42)).alloc (.cells #[.int .i64 x.Client, .int .i64 x.Seq, .int .i64 x.Op.Kind, .int .i64 x.Op.Vol, .int .i64 x.Op.At, .int .i64 x.Op.Value] 57)) [.int .i64 0, .slice none 0 0, .slice none 0 0, .slice none 0 0] 74).below hb1
    simpa only [Deep.nblk_alloc] using this
  have lo1 : w.heap.size + 3 ≤ w1.heap.size := by have := hb1.size; simp only [Deep.nblk_alloc] at this; omega
  have r0 := zB.cell (j := 0) rfl
  have y0 := zB.frozen 0
  have r1 := zB.cell (j := 1) rfl
  have y1 := zB.frozen 1
  have r2 := zB.cell (j := 2) rfl
  have y2 := zB.frozen 2
  have r3 := zB.cell (j := 3) rfl
  have y3 := zB.frozen 3
  clear zB HV HD
  go_wp2_with fail
  refine bodyPost_ret (v := .agg #[.int .i64 X.Code, .slice P1 X.Cluster.Nodes.length a1, .slice P2 X.Cluster.Mails.length a2, .slice P3 X.Cluster.Sealed.length a3]) (by simp [results, Tryz.results46, go_sem, r0, r1, r2, r3]) rfl ?_
  refine ⟨P1, a1, P2, a2, P3, a3, p1, p2, p3, rfl, ⟨?_, ?_, ?_, nd⟩, ?_⟩
  · refine OwnS.past (lo := w.heap.size + 3) (w := w1) o1 ?_ (by simp only [Deep.nblk_alloc]; omega) (by simp only [Deep.nblk_alloc]; omega)
    repeat (first | (with_reducible exact Past.refl _ _) | (with_reducible refine Past.set ?_ (by omega) _))
  · refine OwnS.past (lo := w.heap.size + 3) (w := w1) o2 ?_ (by simp only [Deep.nblk_alloc]; omega) (by simp only [Deep.nblk_alloc]; omega)
    repeat (first | (with_reducible exact Past.refl _ _) | (with_reducible refine Past.set ?_ (by omega) _))
  · refine OwnS.past (lo := w.heap.size + 3) (w := w1) o3 ?_ (by simp only [Deep.nblk_alloc]; omega) (by simp only [Deep.nblk_alloc]; omega)
    repeat (first | (with_reducible exact Past.refl _ _) | (with_reducible refine Past.set ?_ (by omega) _))
  · repeat (first | (with_reducible assumption) | (with_reducible exact Below.refl _ _) | (with_reducible apply below_alloc) | (with_reducible apply below_drewN) | (with_reducible apply Below.drew) | (with_reducible refine below_set ?_ (by dsimp only; omega) _) | (with_reducible refine below_trans ?_ (by assumption)))
set_option maxRecDepth 100000 in
set_option maxHeartbeats 4000000 in
theorem sAskAt_fault (c : SCluster) (k : Int) (x : SEntry) (A0 : Option Addr) (c0 : Nat) (A1 : Option Addr) (c1 : Nat) (A2 : Option Addr) (c2 : Nat) (w : World) (h0 : RdS kReplica w A0 c0 c.Nodes) (h1 : RdS kMail w A1 c1 c.Mails) (h2 : RdS kEntry w A2 c2 c.Sealed) (q : (clusF c != 0) = true) :
    Calls Tryz.prog 43 #[.agg #[.slice A0 c.Nodes.length c0, .slice A1 c.Mails.length c1, .slice A2 c.Sealed.length c2], .int .i64 k, .agg #[.int .i64 x.Client, .int .i64 x.Seq, .int .i64 x.Op.Kind, .int .i64 x.Op.Vol, .int .i64 x.Op.At, .int .i64 x.Op.Value]] w fun r w' => LaidClusterResult (badClusterResult (clusF c)) w r w' := by
  have hat := boxCluster w c 42 h0 h1 h2
  have ba : Below (w.alloc (.cells #[.slice A0 c.Nodes.length c0, .slice A1 c.Mails.length c1, .slice A2 c.Sealed.length c2] 42)).heap.size (w.alloc (.cells #[.slice A0 c.Nodes.length c0, .slice A1 c.Mails.length c1, .slice A2 c.Sealed.length c2] 42)) (((w.alloc (.cells #[.slice A0 c.Nodes.length c0, .slice A1 c.Mails.length c1, .slice A2 c.Sealed.length c2] 42)).alloc (.cells #[.int .i64 x.Client, .int .i64 x.Seq, .int .i64 x.Op.Kind, .int .i64 x.Op.Vol, .int .i64 x.Op.At, .int .i64 x.Op.Value] 57)).alloc (.cells #[.int .i64 0, .slice none 0 0, .slice none 0 0, .slice none 0 0] 74)) := below_alloc (below_alloc (Below.refl _ _) _) _
  go_enter Tryz.func43, Tryz.ntmps43
  go_wp2_with fail
  refine (l11Node_fault c k _ _ (hat.below ba) q).mono ?_
  rintro e w1 ⟨rfl, hb1⟩
  have bw1 : Below w.heap.size w w1 := below_trans (below_alloc (below_alloc (below_alloc (Below.refl _ _) _) _) _) hb1
  have xB : Blk w1 w.heap.size 42 [.slice A0 c.Nodes.length c0, .slice A1 c.Mails.length c1, .slice A2 c.Sealed.length c2] := (((blk_alloc w [.slice A0 c.Nodes.length c0, .slice A1 c.Mails.length c1, .slice A2 c.Sealed.length c2] 42).below (below_alloc (Below.refl _ _) _)).below (below_alloc (Below.refl _ _) _)).below hb1
  have eB : Blk w1 (w.heap.size + 1) 57 [.int .i64 x.Client, .int .i64 x.Seq, .int .i64 x.Op.Kind, .int .i64 x.Op.Vol, .int .i64 x.Op.At, .int .i64 x.Op.Value] := by
    have := ((blk_alloc (w.alloc (.cells #[.slice A0 c.Nodes.length c0, .slice A1 c.Mails.length c1, .slice A2 c.Sealed.length c2] 42)) [.int .i64 x.Client, .int .i64 x.Seq, .int .i64 x.Op.Kind, .int .i64 x.Op.Vol, .int .i64 x.Op.At, .int .i64 x.Op.Value] 57).below (below_alloc (Below.refl _ _) (.cells #[.int .i64 0, .slice none 0 0, .slice none 0 0, .slice none 0 0] 74))).below hb1
    simpa only [Deep.nblk_alloc] using this
  have zB : Blk w1 (w.heap.size + 2) 74 [.int .i64 0, .slice none 0 0, .slice none 0 0, .slice none 0 0] := by
    have := (blk_alloc ((w.alloc (.cells #[.slice A0 c.Nodes.length c0, .slice A1 c.Mails.length c1, .slice A2 c.Sealed.length c2] 42)).alloc (.cells #[.int .i64 x.Client, .int .i64 x.Seq, .int .i64 x.Op.Kind, .int .i64 x.Op.Vol, .int .i64 x.Op.At, .int .i64 x.Op.Value] 57)) [.int .i64 0, .slice none 0 0, .slice none 0 0, .slice none 0 0] 74).below hb1
    simpa only [Deep.nblk_alloc] using this
  have lo1 : w.heap.size + 3 ≤ w1.heap.size := by have := hb1.size; simp only [Deep.nblk_alloc] at this; omega
  clear hb1 ba hat
  go_wp2_with fail
  refine (l11Bad_c _ w1).mono ?_
  rintro r w2 ⟨rfl, hb2⟩
  have zB2 := zB.below hb2
  have bw2 := below_trans bw1 hb2
  have r0 := zB2.cell (j := 0) rfl
  have y0 := zB2.frozen 0
  have r1 := zB2.cell (j := 1) rfl
  have y1 := zB2.frozen 1
  have r2 := zB2.cell (j := 2) rfl
  have y2 := zB2.frozen 2
  have r3 := zB2.cell (j := 3) rfl
  have y3 := zB2.frozen 3
  clear zB zB2
  go_wp2_with fail
  refine bodyPost_ret (v := .agg #[.int .i64 (clusF c), .slice none 0 0, .slice none 0 0, .slice none 0 0]) (by simp [results, Tryz.results43, go_sem, r0, r1, r2, r3]) rfl (LaidClusterResult.bad _ ?_)
  repeat (first | (with_reducible assumption) | (with_reducible exact Below.refl _ _) | (with_reducible apply below_alloc) | (with_reducible apply below_drewN) | (with_reducible apply Below.drew) | (with_reducible refine below_set ?_ (by dsimp only; omega) _) | (with_reducible refine below_trans ?_ (by assumption)))
set_option maxRecDepth 100000 in
set_option maxHeartbeats 4000000 in
theorem sAskAt_range (c : SCluster) (k : Int) (x : SEntry) (A0 : Option Addr) (c0 : Nat) (A1 : Option Addr) (c1 : Nat) (A2 : Option Addr) (c2 : Nat) (w : World) (h0 : RdS kReplica w A0 c0 c.Nodes) (h1 : RdS kMail w A1 c1 c.Mails) (h2 : RdS kEntry w A2 c2 c.Sealed) (q : (clusF c != 0) = false) (q2 : wi k 0 (c.Nodes.length - 1) = false) :
    Calls Tryz.prog 43 #[.agg #[.slice A0 c.Nodes.length c0, .slice A1 c.Mails.length c1, .slice A2 c.Sealed.length c2], .int .i64 k, .agg #[.int .i64 x.Client, .int .i64 x.Seq, .int .i64 x.Op.Kind, .int .i64 x.Op.Vol, .int .i64 x.Op.At, .int .i64 x.Op.Value]] w fun r w' => LaidClusterResult (badClusterResult 3) w r w' := by
  have hat := boxCluster w c 42 h0 h1 h2
  have ba : Below (w.alloc (.cells #[.slice A0 c.Nodes.length c0, .slice A1 c.Mails.length c1, .slice A2 c.Sealed.length c2] 42)).heap.size (w.alloc (.cells #[.slice A0 c.Nodes.length c0, .slice A1 c.Mails.length c1, .slice A2 c.Sealed.length c2] 42)) (((w.alloc (.cells #[.slice A0 c.Nodes.length c0, .slice A1 c.Mails.length c1, .slice A2 c.Sealed.length c2] 42)).alloc (.cells #[.int .i64 x.Client, .int .i64 x.Seq, .int .i64 x.Op.Kind, .int .i64 x.Op.Vol, .int .i64 x.Op.At, .int .i64 x.Op.Value] 57)).alloc (.cells #[.int .i64 0, .slice none 0 0, .slice none 0 0, .slice none 0 0] 74)) := below_alloc (below_alloc (Below.refl _ _) _) _
  go_enter Tryz.func43, Tryz.ntmps43
  go_wp2_with fail
  refine (l11Node_range c k _ _ (hat.below ba) q q2).mono ?_
  rintro e w1 ⟨rfl, hb1⟩
  have bw1 : Below w.heap.size w w1 := below_trans (below_alloc (below_alloc (below_alloc (Below.refl _ _) _) _) _) hb1
  have xB : Blk w1 w.heap.size 42 [.slice A0 c.Nodes.length c0, .slice A1 c.Mails.length c1, .slice A2 c.Sealed.length c2] := (((blk_alloc w [.slice A0 c.Nodes.length c0, .slice A1 c.Mails.length c1, .slice A2 c.Sealed.length c2] 42).below (below_alloc (Below.refl _ _) _)).below (below_alloc (Below.refl _ _) _)).below hb1
  have eB : Blk w1 (w.heap.size + 1) 57 [.int .i64 x.Client, .int .i64 x.Seq, .int .i64 x.Op.Kind, .int .i64 x.Op.Vol, .int .i64 x.Op.At, .int .i64 x.Op.Value] := by
    have := ((blk_alloc (w.alloc (.cells #[.slice A0 c.Nodes.length c0, .slice A1 c.Mails.length c1, .slice A2 c.Sealed.length c2] 42)) [.int .i64 x.Client, .int .i64 x.Seq, .int .i64 x.Op.Kind, .int .i64 x.Op.Vol, .int .i64 x.Op.At, .int .i64 x.Op.Value] 57).below (below_alloc (Below.refl _ _) (.cells #[.int .i64 0, .slice none 0 0, .slice none 0 0, .slice none 0 0] 74))).below hb1
    simpa only [Deep.nblk_alloc] using this
  have zB : Blk w1 (w.heap.size + 2) 74 [.int .i64 0, .slice none 0 0, .slice none 0 0, .slice none 0 0] := by
    have := (blk_alloc ((w.alloc (.cells #[.slice A0 c.Nodes.length c0, .slice A1 c.Mails.length c1, .slice A2 c.Sealed.length c2] 42)).alloc (.cells #[.int .i64 x.Client, .int .i64 x.Seq, .int .i64 x.Op.Kind, .int .i64 x.Op.Vol, .int .i64 x.Op.At, .int .i64 x.Op.Value] 57)) [.int .i64 0, .slice none 0 0, .slice none 0 0, .slice none 0 0] 74).below hb1
    simpa only [Deep.nblk_alloc] using this
  have lo1 : w.heap.size + 3 ≤ w1.heap.size := by have := hb1.size; simp only [Deep.nblk_alloc] at this; omega
  clear hb1 ba hat
  go_wp2_with fail
  refine (l11Bad_c _ w1).mono ?_
  rintro r w2 ⟨rfl, hb2⟩
  have zB2 := zB.below hb2
  have bw2 := below_trans bw1 hb2
  have r0 := zB2.cell (j := 0) rfl
  have y0 := zB2.frozen 0
  have r1 := zB2.cell (j := 1) rfl
  have y1 := zB2.frozen 1
  have r2 := zB2.cell (j := 2) rfl
  have y2 := zB2.frozen 2
  have r3 := zB2.cell (j := 3) rfl
  have y3 := zB2.frozen 3
  clear zB zB2
  go_wp2_with fail
  refine bodyPost_ret (v := .agg #[.int .i64 3, .slice none 0 0, .slice none 0 0, .slice none 0 0]) (by simp [results, Tryz.results43, go_sem, r0, r1, r2, r3]) rfl (LaidClusterResult.bad _ ?_)
  repeat (first | (with_reducible assumption) | (with_reducible exact Below.refl _ _) | (with_reducible apply below_alloc) | (with_reducible apply below_drewN) | (with_reducible apply Below.drew) | (with_reducible refine below_set ?_ (by dsimp only; omega) _) | (with_reducible refine below_trans ?_ (by assumption)))
set_option maxRecDepth 100000 in
set_option maxHeartbeats 4000000 in
theorem sAskAt_code (c : SCluster) (k : Nat) (x : SEntry) (n : SReplica) (A0 : Option Addr) (c0 : Nat) (A1 : Option Addr) (c1 : Nat) (A2 : Option Addr) (c2 : Nat) (w : World) (h0 : RdS kReplica w A0 c0 c.Nodes) (h1 : RdS kMail w A1 c1 c.Mails) (h2 : RdS kEntry w A2 c2 c.Sealed) (q : (clusF c != 0) = false) (hk : k < c.Nodes.length) (hn : c.Nodes[k] = n) (hf : FitsRR n (askX x n)) (q3 : ((askX x n).Code != 0) = true) :
    Calls Tryz.prog 43 #[.agg #[.slice A0 c.Nodes.length c0, .slice A1 c.Mails.length c1, .slice A2 c.Sealed.length c2], .int .i64 k, .agg #[.int .i64 x.Client, .int .i64 x.Seq, .int .i64 x.Op.Kind, .int .i64 x.Op.Vol, .int .i64 x.Op.At, .int .i64 x.Op.Value]] w fun r w' => LaidClusterResult (badClusterResult (askX x n).Code) w r w' := by
  have hN := clusF_nums q
  have hsm := hN.small
  have hn5 := hN.n5
  have hm120 := hN.mails
  have hlt' : (k : Int) < (c.Nodes.length : Int) := by omega
  have q2 : wi (k : Int) 0 (c.Nodes.length - 1) = true := by unfold wi; rw [decide_eq_true (by omega), decide_eq_true (by omega)]; rfl
  have HS := Lib.hid (sAskReplica_c x n)
  generalize askX x n = X at HS hf q3 ⊢
  have hat := boxCluster w c 42 h0 h1 h2
  have ba : Below (w.alloc (.cells #[.slice A0 c.Nodes.length c0, .slice A1 c.Mails.length c1, .slice A2 c.Sealed.length c2] 42)).heap.size (w.alloc (.cells #[.slice A0 c.Nodes.length c0, .slice A1 c.Mails.length c1, .slice A2 c.Sealed.length c2] 42)) (((w.alloc (.cells #[.slice A0 c.Nodes.length c0, .slice A1 c.Mails.length c1, .slice A2 c.Sealed.length c2] 42)).alloc (.cells #[.int .i64 x.Client, .int .i64 x.Seq, .int .i64 x.Op.Kind, .int .i64 x.Op.Vol, .int .i64 x.Op.At, .int .i64 x.Op.Value] 57)).alloc (.cells #[.int .i64 0, .slice none 0 0, .slice none 0 0, .slice none 0 0] 74)) := below_alloc (below_alloc (Below.refl _ _) _) _
  have hnode := Lib.hid (l11Node_fine c k _ _ (hat.below ba) q q2)
  have HN := Lib.hid hn
  clear q q2 hN hn
  go_enter Tryz.func43, Tryz.ntmps43
  go_wp2_with fail
  refine hnode.out.mono ?_
  rintro e w1 ⟨rfl, hb1⟩
  have bw1 : Below w.heap.size w w1 := below_trans (below_alloc (below_alloc (below_alloc (Below.refl _ _) _) _) _) hb1
  have xB : Blk w1 w.heap.size 42 [.slice A0 c.Nodes.length c0, .slice A1 c.Mails.length c1, .slice A2 c.Sealed.length c2] := (((blk_alloc w [.slice A0 c.Nodes.length c0, .slice A1 c.Mails.length c1, .slice A2 c.Sealed.length c2] 42).below (below_alloc (Below.refl _ _) _)).below (below_alloc (Below.refl _ _) _)).below hb1
  have eB : Blk w1 (w.heap.size + 1) 57 [.int .i64 x.Client, .int .i64 x.Seq, .int .i64 x.Op.Kind, .int .i64 x.Op.Vol, .int .i64 x.Op.At, .int .i64 x.Op.Value] := by
    have := ((blk_alloc (w.alloc (.cells #[.slice A0 c.Nodes.length c0, .slice A1 c.Mails.length c1, .slice A2 c.Sealed.length c2] 42)) [.int .i64 x.Client, .int .i64 x.Seq, .int .i64 x.Op.Kind, .int .i64 x.Op.Vol, .int .i64 x.Op.At, .int .i64 x.Op.Value] 57).below (below_alloc (Below.refl _ _) (.cells #[.int .i64 0, .slice none 0 0, .slice none 0 0, .slice none 0 0] 74))).below hb1
    simpa only [Deep.nblk_alloc] using this
  have zB : Blk w1 (w.heap.size + 2) 74 [.int .i64 0, .slice none 0 0, .slice none 0 0, .slice none 0 0] := by
    have := (blk_alloc ((w.alloc (.cells #[.slice A0 c.Nodes.length c0, .slice A1 c.Mails.length c1, .slice A2 c.Sealed.length c2] 42)).alloc (.cells #[.int .i64 x.Client, .int .i64 x.Seq, .int .i64 x.Op.Kind, .int .i64 x.Op.Vol, .int .i64 x.Op.At, .int .i64 x.Op.Value] 57)) [.int .i64 0, .slice none 0 0, .slice none 0 0, .slice none 0 0] 74).below hb1
    simpa only [Deep.nblk_alloc] using this
  have lo1 : w.heap.size + 3 ≤ w1.heap.size := by have := hb1.size; simp only [Deep.nblk_alloc] at this; omega
  clear hb1 ba hat hnode
  go_upto_region 4 with fail
  have x0 := xB.cell (j := 0) rfl
  have x1 := xB.cell (j := 1) rfl
  have x2 := xB.cell (j := 2) rfl
  have e0 := eB.cell (j := 0) rfl
  have e1 := eB.cell (j := 1) rfl
  have e2 := eB.cell (j := 2) rfl
  have e3 := eB.cell (j := 3) rfl
  have e4 := eB.cell (j := 4) rfl
  have e5 := eB.cell (j := 5) rfl
  obtain ⟨a, ea, hx⟩ := (h0.below bw1).at_ hk
  subst ea
  rw [HN.out] at hx
  simp only [show kReplica.sz = 10 from rfl] at hx
  obtain ⟨E5, u5, E7, u7, E8, u8, E9, u9, hq⟩ := atReplica hx
  obtain ⟨q0, q1, q2, q3', q4, q5, q6, q7, q8, q9, g5, g7, g8, g9⟩ := hq
  clear hx
  go_region_with (first | (go_at_call 122; refine (HS.out E5 u5 E7 u7 E8 u8 E9 u9 _ (g5.below (by repeat (first | (with_reducible assumption) | (with_reducible exact Below.refl _ _) | (with_reducible apply below_alloc) | (with_reducible apply below_drewN) | (with_reducible apply Below.drew) | (with_reducible refine below_set ?_ (by dsimp only; omega) _) | (with_reducible refine below_trans ?_ (by assumption))))) (g7.below (by repeat (first | (with_reducible assumption) | (with_reducible exact Below.refl _ _) | (with_reducible apply below_alloc) | (with_reducible apply below_drewN) | (with_reducible apply Below.drew) | (with_reducible refine below_set ?_ (by dsimp only; omega) _) | (with_reducible refine below_trans ?_ (by assumption))))) (g8.below (by repeat (first | (with_reducible assumption) | (with_reducible exact Below.refl _ _) | (with_reducible apply below_alloc) | (with_reducible apply below_drewN) | (with_reducible apply Below.drew) | (with_reducible refine below_set ?_ (by dsimp only; omega) _) | (with_reducible refine below_trans ?_ (by assumption))))) (g9.below (by repeat (first | (with_reducible assumption) | (with_reducible exact Below.refl _ _) | (with_reducible apply below_alloc) | (with_reducible apply below_drewN) | (with_reducible apply Below.drew) | (with_reducible refine below_set ?_ (by dsimp only; omega) _) | (with_reducible refine below_trans ?_ (by assumption)))))).mono ?_; rintro e w2 ⟨R6, d6, R8, d8, R9, d9, R10, d10, R11, d11, f6, f8, f9, f10, f11, rfl, ⟨p6, p8, p9, p10, p11, ndR⟩, hb2⟩; have b2 : Below w1.heap.size w1 w2 := (below_trans (Below.refl _ _).drew hb2); have xB2 := xB.below b2; have t0 := xB2.cell (j := 0) rfl; have t1 := xB2.cell (j := 1) rfl; have t2 := xB2.cell (j := 2) rfl) | (go_at_call 121; refine (l11Do_bad c k X (some a) c0 A1 c1 A2 c2 R6 d6 R8 d8 R9 d9 R10 d10 R11 d11 _ q3).mono ?_; rintro e w3 ⟨P1, a1, P2, a2, P3, a3, s1, s2, s3, rfl, ⟨o1, o2, o3, nd⟩, hb3⟩; have b3 : Below w1.heap.size w1 w3 := below_trans b2 hb3; have l12 := b2.size; have o1 := o1.lift (B' := w1.heap.size) (fun b hb => by have := (o1.in b hb).1; omega); have o2 := o2.lift (B' := w1.heap.size) (fun b hb => by have := (o2.in b hb).1; omega); have o3 := o3.lift (B' := w1.heap.size) (fun b hb => by have := (o3.in b hb).1; omega); have zB3 := zB.below b3; have r0 := zB3.cell (j := 0) rfl; have r1 := zB3.cell (j := 1) rfl; have r2 := zB3.cell (j := 2) rfl; have r3 := zB3.cell (j := 3) rfl; have w0 := zB3.frozen 0; have w1' := zB3.frozen 1; have w2' := zB3.frozen 2; have w3' := zB3.frozen 3; have l13 := b3.size; have bw3 := below_trans bw1 b3))
  all_goals (go_wp2_with fail)
  all_goals
    refine bodyPost_ret (v := .agg #[.int .i64 (badClusterResult X.Code).Code, .slice P1 (badClusterResult X.Code).Cluster.Nodes.length a1, .slice P2 (badClusterResult X.Code).Cluster.Mails.length a2, .slice P3 (badClusterResult X.Code).Cluster.Sealed.length a3]) (by simp [results, Tryz.results43, go_sem, r0, r1, r2, r3]) rfl ?_
    refine ⟨P1, a1, P2, a2, P3, a3, s1, s2, s3, rfl, ⟨?_, ?_, ?_, nd⟩, ?_⟩
    · refine OwnS.past (lo := w.heap.size + 3) (w := w3) o1 ?_ (by omega) (by omega)
      repeat (first | (with_reducible exact Past.refl _ _) | (with_reducible refine Past.set ?_ (by omega) _))
    · refine OwnS.past (lo := w.heap.size + 3) (w := w3) o2 ?_ (by omega) (by omega)
      repeat (first | (with_reducible exact Past.refl _ _) | (with_reducible refine Past.set ?_ (by omega) _))
    · refine OwnS.past (lo := w.heap.size + 3) (w := w3) o3 ?_ (by omega) (by omega)
      repeat (first | (with_reducible exact Past.refl _ _) | (with_reducible refine Past.set ?_ (by omega) _))
    · repeat (first | (with_reducible assumption) | (with_reducible exact Below.refl _ _) | (with_reducible apply below_alloc) | (with_reducible apply below_drewN) | (with_reducible apply Below.drew) | (with_reducible refine below_set ?_ (by dsimp only; omega) _) | (with_reducible refine below_trans ?_ (by assumption)))
set_option maxRecDepth 100000 in
set_option maxHeartbeats 4000000 in
theorem sAskAt_did (c : SCluster) (k : Nat) (x : SEntry) (n : SReplica) (A0 : Option Addr) (c0 : Nat) (A1 : Option Addr) (c1 : Nat) (A2 : Option Addr) (c2 : Nat) (w : World) (h0 : RdS kReplica w A0 c0 c.Nodes) (h1 : RdS kMail w A1 c1 c.Mails) (h2 : RdS kEntry w A2 c2 c.Sealed) (q : (clusF c != 0) = false) (hk : k < c.Nodes.length) (hn : c.Nodes[k] = n) (hf : FitsRR n (askX x n)) (q3 : ((askX x n).Code != 0) = false) :
    Calls Tryz.prog 43 #[.agg #[.slice A0 c.Nodes.length c0, .slice A1 c.Mails.length c1, .slice A2 c.Sealed.length c2], .int .i64 k, .agg #[.int .i64 x.Client, .int .i64 x.Seq, .int .i64 x.Op.Kind, .int .i64 x.Op.Vol, .int .i64 x.Op.At, .int .i64 x.Op.Value]] w fun r w' => LaidClusterResult (⟨0, doneClu c k (askX x n).Replica (askX x n).Send⟩) w r w' := by
  have hN := clusF_nums q
  have hsm := hN.small
  have hn5 := hN.n5
  have hm120 := hN.mails
  have hlt' : (k : Int) < (c.Nodes.length : Int) := by omega
  have q2 : wi (k : Int) 0 (c.Nodes.length - 1) = true := by unfold wi; rw [decide_eq_true (by omega), decide_eq_true (by omega)]; rfl
  have HS := Lib.hid (sAskReplica_c x n)
  generalize askX x n = X at HS hf q3 ⊢
  obtain ⟨n', ms, rfl⟩ : ∃ n' ms, X = ⟨0, n', ms⟩ := ⟨X.Replica, X.Send, by cases X; simp at q3; subst q3; rfl⟩
  obtain ⟨hfin, hrep, hsend, hfew⟩ := hf
  obtain ⟨hc0, hc1⟩ := hfin rfl
  dsimp only at hc0 hc1 hrep hsend hfew
  clear q3
  have hat := boxCluster w c 42 h0 h1 h2
  have ba : Below (w.alloc (.cells #[.slice A0 c.Nodes.length c0, .slice A1 c.Mails.length c1, .slice A2 c.Sealed.length c2] 42)).heap.size (w.alloc (.cells #[.slice A0 c.Nodes.length c0, .slice A1 c.Mails.length c1, .slice A2 c.Sealed.length c2] 42)) (((w.alloc (.cells #[.slice A0 c.Nodes.length c0, .slice A1 c.Mails.length c1, .slice A2 c.Sealed.length c2] 42)).alloc (.cells #[.int .i64 x.Client, .int .i64 x.Seq, .int .i64 x.Op.Kind, .int .i64 x.Op.Vol, .int .i64 x.Op.At, .int .i64 x.Op.Value] 57)).alloc (.cells #[.int .i64 0, .slice none 0 0, .slice none 0 0, .slice none 0 0] 74)) := below_alloc (below_alloc (Below.refl _ _) _) _
  have hnode := Lib.hid (l11Node_fine c k _ _ (hat.below ba) q q2)
  have HN := Lib.hid hn
  clear q q2 hN hn
  go_enter Tryz.func43, Tryz.ntmps43
  go_wp2_with fail
  refine hnode.out.mono ?_
  rintro e w1 ⟨rfl, hb1⟩
  have bw1 : Below w.heap.size w w1 := below_trans (below_alloc (below_alloc (below_alloc (Below.refl _ _) _) _) _) hb1
  have xB : Blk w1 w.heap.size 42 [.slice A0 c.Nodes.length c0, .slice A1 c.Mails.length c1, .slice A2 c.Sealed.length c2] := (((blk_alloc w [.slice A0 c.Nodes.length c0, .slice A1 c.Mails.length c1, .slice A2 c.Sealed.length c2] 42).below (below_alloc (Below.refl _ _) _)).below (below_alloc (Below.refl _ _) _)).below hb1
  have eB : Blk w1 (w.heap.size + 1) 57 [.int .i64 x.Client, .int .i64 x.Seq, .int .i64 x.Op.Kind, .int .i64 x.Op.Vol, .int .i64 x.Op.At, .int .i64 x.Op.Value] := by
    have := ((blk_alloc (w.alloc (.cells #[.slice A0 c.Nodes.length c0, .slice A1 c.Mails.length c1, .slice A2 c.Sealed.length c2] 42)) [.int .i64 x.Client, .int .i64 x.Seq, .int .i64 x.Op.Kind, .int .i64 x.Op.Vol, .int .i64 x.Op.At, .int .i64 x.Op.Value] 57).below (below_alloc (Below.refl _ _) (.cells #[.int .i64 0, .slice none 0 0, .slice none 0 0, .slice none 0 0] 74))).below hb1
    simpa only [Deep.nblk_alloc] using this
  have zB : Blk w1 (w.heap.size + 2) 74 [.int .i64 0, .slice none 0 0, .slice none 0 0, .slice none 0 0] := by
    have := (blk_alloc ((w.alloc (.cells #[.slice A0 c.Nodes.length c0, .slice A1 c.Mails.length c1, .slice A2 c.Sealed.length c2] 42)).alloc (.cells #[.int .i64 x.Client, .int .i64 x.Seq, .int .i64 x.Op.Kind, .int .i64 x.Op.Vol, .int .i64 x.Op.At, .int .i64 x.Op.Value] 57)) [.int .i64 0, .slice none 0 0, .slice none 0 0, .slice none 0 0] 74).below hb1
    simpa only [Deep.nblk_alloc] using this
  have lo1 : w.heap.size + 3 ≤ w1.heap.size := by have := hb1.size; simp only [Deep.nblk_alloc] at this; omega
  clear hb1 ba hat hnode
  go_upto_region 4 with fail
  have x0 := xB.cell (j := 0) rfl
  have x1 := xB.cell (j := 1) rfl
  have x2 := xB.cell (j := 2) rfl
  have e0 := eB.cell (j := 0) rfl
  have e1 := eB.cell (j := 1) rfl
  have e2 := eB.cell (j := 2) rfl
  have e3 := eB.cell (j := 3) rfl
  have e4 := eB.cell (j := 4) rfl
  have e5 := eB.cell (j := 5) rfl
  obtain ⟨a, ea, hx⟩ := (h0.below bw1).at_ hk
  subst ea
  rw [HN.out] at hx
  simp only [show kReplica.sz = 10 from rfl] at hx
  obtain ⟨E5, u5, E7, u7, E8, u8, E9, u9, hq⟩ := atReplica hx
  obtain ⟨q0, q1, q2, q3', q4, q5, q6, q7, q8, q9, g5, g7, g8, g9⟩ := hq
  clear hx
  go_region_with (first | (go_at_call 122; refine (HS.out E5 u5 E7 u7 E8 u8 E9 u9 _ (g5.below (by repeat (first | (with_reducible assumption) | (with_reducible exact Below.refl _ _) | (with_reducible apply below_alloc) | (with_reducible apply below_drewN) | (with_reducible apply Below.drew) | (with_reducible refine below_set ?_ (by dsimp only; omega) _) | (with_reducible refine below_trans ?_ (by assumption))))) (g7.below (by repeat (first | (with_reducible assumption) | (with_reducible exact Below.refl _ _) | (with_reducible apply below_alloc) | (with_reducible apply below_drewN) | (with_reducible apply Below.drew) | (with_reducible refine below_set ?_ (by dsimp only; omega) _) | (with_reducible refine below_trans ?_ (by assumption))))) (g8.below (by repeat (first | (with_reducible assumption) | (with_reducible exact Below.refl _ _) | (with_reducible apply below_alloc) | (with_reducible apply below_drewN) | (with_reducible apply Below.drew) | (with_reducible refine below_set ?_ (by dsimp only; omega) _) | (with_reducible refine below_trans ?_ (by assumption))))) (g9.below (by repeat (first | (with_reducible assumption) | (with_reducible exact Below.refl _ _) | (with_reducible apply below_alloc) | (with_reducible apply below_drewN) | (with_reducible apply Below.drew) | (with_reducible refine below_set ?_ (by dsimp only; omega) _) | (with_reducible refine below_trans ?_ (by assumption)))))).mono ?_; rintro e w2 ⟨R6, d6, R8, d8, R9, d9, R10, d10, R11, d11, f6, f8, f9, f10, f11, rfl, ⟨p6, p8, p9, p10, p11, ndR⟩, hb2⟩; have b2 : Below w1.heap.size w1 w2 := (below_trans (Below.refl _ _).drew hb2); have xB2 := xB.below b2; have t0 := xB2.cell (j := 0) rfl; have t1 := xB2.cell (j := 1) rfl; have t2 := xB2.cell (j := 2) rfl) | (go_at_call 121; refine (l11Do_c c k n n' ms (some a) c0 A1 c1 A2 c2 R6 d6 R8 d8 R9 d9 R10 d10 R11 d11 f6 f8 f9 f10 w1.heap.size _ (h0.below (below_trans bw1 b2)) (h1.below (below_trans bw1 b2)) (h2.below (below_trans bw1 b2)) p6 p8 p9 p10 (by have h := ndR; simp only [← List.append_assoc] at h; simp only [← List.append_assoc]; exact (List.nodup_append.1 h).1) (ownS_rds p11).1 b2.size hsm hn5 hm120 hk HN.out hc0 hc1 hrep hsend hfew).mono ?_; rintro e w3 ⟨P1, a1, P2, a2, P3, a3, s1, s2, s3, rfl, ⟨o1, o2, o3, nd⟩, hb3⟩; have b3 : Below w1.heap.size w1 w3 := below_trans b2 hb3; have zB3 := zB.below b3; have r0 := zB3.cell (j := 0) rfl; have r1 := zB3.cell (j := 1) rfl; have r2 := zB3.cell (j := 2) rfl; have r3 := zB3.cell (j := 3) rfl; have w0 := zB3.frozen 0; have w1' := zB3.frozen 1; have w2' := zB3.frozen 2; have w3' := zB3.frozen 3; have l13 := b3.size; have bw3 := below_trans bw1 b3))
  all_goals (go_wp2_with fail)
  all_goals
    refine bodyPost_ret (v := .agg #[.int .i64 (SClusterResult.mk 0 (doneClu c k n' ms)).Code, .slice P1 (SClusterResult.mk 0 (doneClu c k n' ms)).Cluster.Nodes.length a1, .slice P2 (SClusterResult.mk 0 (doneClu c k n' ms)).Cluster.Mails.length a2, .slice P3 (SClusterResult.mk 0 (doneClu c k n' ms)).Cluster.Sealed.length a3]) (by simp [results, Tryz.results43, go_sem, r0, r1, r2, r3]) rfl ?_
    refine ⟨P1, a1, P2, a2, P3, a3, s1, s2, s3, rfl, ⟨?_, ?_, ?_, nd⟩, ?_⟩
    · refine OwnS.past (lo := w.heap.size + 3) (w := w3) o1 ?_ (by omega) (by omega)
      repeat (first | (with_reducible exact Past.refl _ _) | (with_reducible refine Past.set ?_ (by omega) _))
    · refine OwnS.past (lo := w.heap.size + 3) (w := w3) o2 ?_ (by omega) (by omega)
      repeat (first | (with_reducible exact Past.refl _ _) | (with_reducible refine Past.set ?_ (by omega) _))
    · refine OwnS.past (lo := w.heap.size + 3) (w := w3) o3 ?_ (by omega) (by omega)
      repeat (first | (with_reducible exact Past.refl _ _) | (with_reducible refine Past.set ?_ (by omega) _))
    · repeat (first | (with_reducible assumption) | (with_reducible exact Below.refl _ _) | (with_reducible apply below_alloc) | (with_reducible apply below_drewN) | (with_reducible apply Below.drew) | (with_reducible refine below_set ?_ (by dsimp only; omega) _) | (with_reducible refine below_trans ?_ (by assumption)))
theorem sAskAt_c (c : SCluster) (k : Int) (x : SEntry) (A0 : Option Addr) (c0 : Nat) (A1 : Option Addr) (c1 : Nat) (A2 : Option Addr) (c2 : Nat) (w : World) (h0 : RdS kReplica w A0 c0 c.Nodes) (h1 : RdS kMail w A1 c1 c.Mails) (h2 : RdS kEntry w A2 c2 c.Sealed) :
    Calls Tryz.prog 43 #[.agg #[.slice A0 c.Nodes.length c0, .slice A1 c.Mails.length c1, .slice A2 c.Sealed.length c2], .int .i64 k, .agg #[.int .i64 x.Client, .int .i64 x.Seq, .int .i64 x.Op.Kind, .int .i64 x.Op.Vol, .int .i64 x.Op.At, .int .i64 x.Op.Value]] w fun r w' => LaidClusterResult (atX (askX x) c k) w r w' := by
  cases q : (clusF c != 0) with
  | true => rw [atX_fault q]; exact sAskAt_fault c k x A0 c0 A1 c1 A2 c2 w h0 h1 h2 q
  | false =>
    cases q2 : wi k 0 (c.Nodes.length - 1) with
    | false => rw [atX_range q q2]; exact sAskAt_range c k x A0 c0 A1 c1 A2 c2 w h0 h1 h2 q q2
    | true =>
      have hw := wi_b q2
      obtain ⟨m, rfl⟩ := Int.eq_ofNat_of_zero_le hw.1
      have hm : m < c.Nodes.length := by omega
      rw [atX_fine q hm]
      have hN := clusF_nums q
      have hf := ask_fits x c.Nodes[m] (hN.node m hm).1
      unfold putX
      cases q3 : ((askX x c.Nodes[m]).Code != 0) with
      | true => rw [if_pos rfl]; exact sAskAt_code c m x _ A0 c0 A1 c1 A2 c2 w h0 h1 h2 q hm rfl hf q3
      | false => rw [if_neg (by simp)]; exact sAskAt_did c m x _ A0 c0 A1 c1 A2 c2 w h0 h1 h2 q hm rfl hf q3
theorem atAskX_small (c : SCluster) (k : Int) (x : SEntry) : ctL ctReplica (atX (askX x) c k).Cluster.Nodes + ctL ctMail (atX (askX x) c k).Cluster.Mails + ctL ctEntry (atX (askX x) c k).Cluster.Sealed ≤ 100000000000000000 := ctCluster_small (atX_small (ask_fits x) c k)
end Go.Proofs.YtoohhkmlgmeolaaGreat
