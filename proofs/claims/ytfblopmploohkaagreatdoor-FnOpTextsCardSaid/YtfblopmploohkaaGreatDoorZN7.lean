/- AskAt: the program's and the reference's (written by gN7.py, own work). -/
import Derived.Test.YtfblopmploohkaaGreatDoorZN7p
set_option linter.unusedVariables false
set_option linter.unusedSimpArgs false
namespace Go.Proofs.YtfblopmploohkaaGreatDoor
open Go Go.RowKit Mk
set_option maxRecDepth 100000 in
set_option maxHeartbeats 4000000 in
theorem ask1_c (b : Nat) (q : Addr) (x : SEntry) (n' : SReplica) (ms : List SMail) (code : Int) (fp : List Nat) (B : Nat) (w : World) (hx : At kEntry w q x) (hadd : Calls Tryz.prog 73 #[.pointer (some ⟨b, 0, none⟩), .agg #[.int .i64 x.Client, .int .i64 x.Seq, .int .i64 x.Op.Kind, .int .i64 x.Op.Vol, .int .i64 x.Op.At, .int .i64 x.Op.Value]] w fun r w' => DidBox b n' ms code fp B w r w') :
    Calls Tryz.prog 72 #[.pointer (some ⟨b, 0, none⟩), .pointer (some q)] w fun r w' => DidBox b n' ms code fp B w r w' := by
  obtain ⟨q0, q1, q2, q3, q4, q5⟩ := atEntry hx
  have HA := Lib.hid hadd
  clear hadd hx
  go_enter Tryz.func72, Tryz.ntmps72
  go_wp2_with fail
  clear q0 q1 q2 q3 q4 q5
  refine HA.out.mono ?_
  rintro r w1 ⟨A5, c5, A7, c7, A8, c8, A9, c9, f5, f7, f8, f9, As, cs, fs, rfl, hrest⟩
  have HR := Lib.hid hrest
  clear hrest HA
  go_wp2_with fail
  refine bodyPost_ret (v := .tuple #[.slice As ms.length cs, .int .i64 code]) (by simp [results, Tryz.results72, go_sem]) rfl ?_
  exact ⟨A5, c5, A7, c7, A8, c8, A9, c9, f5, f7, f8, f9, As, cs, fs, rfl, HR.out⟩
theorem ask_verb (q : Addr) (x : SEntry) (w : World) (hx : At kEntry w q x) : VerbOf 72 #[.pointer (some q)] (askX x) w := fun n h => by
  have hf := repF_nums h
  refine ⟨ask_fits x n h, fun hq => ?_, fun hq => ?_⟩
  · rcases askX_code x n h with ⟨q1, e⟩ | ⟨q1, q2, e⟩ | ⟨q1, q2, q3, e⟩ | ⟨q1, q2, q3, e⟩
    · rw [e]; exact ⟨n, [], fun b A5 c5 A7 c7 A8 c8 A9 c9 f5 f7 f8 f9 B W hW hB hn hb hBw => ask1_c b q x n [] 10 _ B W (hx.below hW) (add_idle b n x A5 c5 A7 c7 A8 c8 A9 c9 f5 f7 f8 f9 B W hB hn hb hBw h q1)⟩
    · rw [e]; exact ⟨n, [], fun b A5 c5 A7 c7 A8 c8 A9 c9 f5 f7 f8 f9 B W hW hB hn hb hBw => ask1_c b q x n [] (entryF x) _ B W (hx.below hW) (add_wrong b n x A5 c5 A7 c7 A8 c8 A9 c9 f5 f7 f8 f9 B W hB hn hb hBw h q1 q2)⟩
    · rw [e]; exact ⟨n, [], fun b A5 c5 A7 c7 A8 c8 A9 c9 f5 f7 f8 f9 B W hW hB hn hb hBw => ask1_c b q x n [] 2 _ B W (hx.below hW) (add_full b n x A5 c5 A7 c7 A8 c8 A9 c9 f5 f7 f8 f9 B W hB hn hb hBw h q1 q2 q3)⟩
    · rw [e] at hq; simp at hq
  · rcases askX_code x n h with ⟨q1, e⟩ | ⟨q1, q2, e⟩ | ⟨q1, q2, q3, e⟩ | ⟨q1, q2, q3, e⟩
    · rw [e] at hq; simp at hq
    · rw [e, q2] at hq; cases hq
    · rw [e] at hq; simp at hq
    · rw [e]
      have ho := repF_oks h q1
      exact fun b A5 c5 A7 c7 A8 c8 A9 c9 f5 f7 f8 f9 B W hW hB hn hb hBw => ask1_c b q x _ _ 0 _ B W (hx.below hW) (add_ok b n x _ _ _ A5 c5 A7 c7 A8 c8 A9 c9 f5 f7 f8 f9 B W hB hn hb hBw hf ho.1 ho.2 q1 q2 q3)
set_option maxRecDepth 100000 in
set_option maxHeartbeats 4000000 in
theorem iAskAt_c (c : SCluster) (k : Int) (x : SEntry) (A0 : Option Addr) (c0 : Nat) (A1 : Option Addr) (c1 : Nat) (A2 : Option Addr) (c2 : Nat) (w : World) (h0 : RdS kReplica w A0 c0 c.Nodes) (h1 : RdS kMail w A1 c1 c.Mails) (h2 : RdS kEntry w A2 c2 c.Sealed) :
    Calls Tryz.prog 47 #[.agg #[.slice A0 c.Nodes.length c0, .slice A1 c.Mails.length c1, .slice A2 c.Sealed.length c2], .int .i64 k, .agg #[.int .i64 x.Client, .int .i64 x.Seq, .int .i64 x.Op.Kind, .int .i64 x.Op.Vol, .int .i64 x.Op.At, .int .i64 x.Op.Value]] w fun r w' => LaidClusterResult (atX (askX x) c k) w r w' := by
  have HD := Lib.hid (fun (q : Addr) (W : World) => nodeDone_any 72 #[.pointer (some q)] (Go.Proofs.enters_of Tryz.func72 (by kernel_rfl) rfl) (askX x) c k A0 c0 A1 c1 A2 c2 W)
  have hx0 : At kEntry ((w.alloc (.cells #[.slice A0 c.Nodes.length c0, .slice A1 c.Mails.length c1, .slice A2 c.Sealed.length c2] 34)).alloc (.cells #[.int .i64 x.Client, .int .i64 x.Seq, .int .i64 x.Op.Kind, .int .i64 x.Op.Vol, .int .i64 x.Op.At, .int .i64 x.Op.Value] 46)) ⟨w.heap.size + 1, 0, none⟩ x := by
    have := boxEntry (w.alloc (.cells #[.slice A0 c.Nodes.length c0, .slice A1 c.Mails.length c1, .slice A2 c.Sealed.length c2] 34)) x 46
    rwa [Deep.nblk_alloc] at this
  have HV := Lib.hid (ask_verb ⟨w.heap.size + 1, 0, none⟩ x _ (hx0.below (below_alloc (Below.refl _ _) (.cells #[.int .i64 0, .slice none 0 0, .slice none 0 0, .slice none 0 0] 36))))
  clear hx0
  generalize atX (askX x) c k = X at HD ⊢
  go_enter Tryz.func47, Tryz.ntmps47
  go_wp2_with fail
  refine (HD.out ⟨w.heap.size + 1, 0, none⟩ _ (h0.below (by repeat (first | (with_reducible assumption) | (with_reducible exact Below.refl _ _) | (with_reducible apply below_alloc) | (with_reducible apply below_drewN) | (with_reducible apply Below.drew) | (with_reducible refine below_set ?_ (by dsimp only; omega) _) | (with_reducible refine below_trans ?_ (by assumption))))) (h1.below (by repeat (first | (with_reducible assumption) | (with_reducible exact Below.refl _ _) | (with_reducible apply below_alloc) | (with_reducible apply below_drewN) | (with_reducible apply Below.drew) | (with_reducible refine below_set ?_ (by dsimp only; omega) _) | (with_reducible refine below_trans ?_ (by assumption))))) (h2.below (by repeat (first | (with_reducible assumption) | (with_reducible exact Below.refl _ _) | (with_reducible apply below_alloc) | (with_reducible apply below_drewN) | (with_reducible apply Below.drew) | (with_reducible refine below_set ?_ (by dsimp only; omega) _) | (with_reducible refine below_trans ?_ (by assumption))))) HV.out).mono ?_
  rintro r w1 ⟨P1, a1, P2, a2, P3, a3, p1, p2, p3, rfl, ⟨o1, o2, o3, nd⟩, hb1⟩
  have zB : Blk w1 (w.heap.size + 2) 36 [.int .i64 0, .slice none 0 0, .slice none 0 0, .slice none 0 0] := by
    have := (blk_alloc ((w.alloc (.cells #[.slice A0 c.Nodes.length c0, .slice A1 c.Mails.length c1, .slice A2 c.Sealed.length c2] 34)).alloc (.cells #[.int .i64 x.Client, .int .i64 x.Seq, .int .i64 x.Op.Kind, .int .i64 x.Op.Vol, .int .i64 x.Op.At, .int .i64 x.Op.Value] 46)) [.int .i64 0, .slice none 0 0, .slice none 0 0, .slice none 0 0] 36).below hb1
    simpa only [Deep.nblk_alloc] using this
  have lo1 : w.heap.size + 3 ≤ w1.heap.size := by have := hb1.size; simp only [Deep.nblk_alloc] at this; omega
  have r0 := zB.cell (j := 0) rfl
  have y0 := zB.frozen 0
  have r1 := zB.cell (j := 1) rfl
  have y1 := zB.frozen 1
  have r2 := zB.cell (j := 2) rfl
  have y2 := zB.frozen 2
  have r3 := zB.cell (j := 3) rfl
  have y3 := zB.frozen 3
  clear zB HV HD
  go_wp2_with fail
  refine bodyPost_ret (v := .agg #[.int .i64 X.Code, .slice P1 X.Cluster.Nodes.length a1, .slice P2 X.Cluster.Mails.length a2, .slice P3 X.Cluster.Sealed.length a3]) (by simp [results, Tryz.results47, go_sem, r0, r1, r2, r3]) rfl ?_
  refine ⟨P1, a1, P2, a2, P3, a3, p1, p2, p3, rfl, ⟨?_, ?_, ?_, nd⟩, ?_⟩
  · refine OwnS.past (lo := w.heap.size + 3) (w := w1) o1 ?_ (by simp only [Deep.nblk_alloc]; omega) (by simp only [Deep.nblk_alloc]; omega)
    repeat (first | (with_reducible exact Past.refl _ _) | (with_reducible refine Past.set ?_ (by omega) _))
  · refine OwnS.past (lo := w.heap.size + 3) (w := w1) o2 ?_ (by simp only [Deep.nblk_alloc]; omega) (by simp only [Deep.nblk_alloc]; omega)
    repeat (first | (with_reducible exact Past.refl _ _) | (with_reducible refine Past.set ?_ (by omega) _))
  · refine OwnS.past (lo := w.heap.size + 3) (w := w1) o3 ?_ (by simp only [Deep.nblk_alloc]; omega) (by simp only [Deep.nblk_alloc]; omega)
    repeat (first | (with_reducible exact Past.refl _ _) | (with_reducible refine Past.set ?_ (by omega) _))
  · repeat (first | (with_reducible assumption) | (with_reducible exact Below.refl _ _) | (with_reducible apply below_alloc) | (with_reducible apply below_drewN) | (with_reducible apply Below.drew) | (with_reducible refine below_set ?_ (by dsimp only; omega) _) | (with_reducible refine below_trans ?_ (by assumption)))
theorem atAskX_small (c : SCluster) (k : Int) (x : SEntry) : ctL ctReplica (atX (askX x) c k).Cluster.Nodes + ctL ctMail (atX (askX x) c k).Cluster.Mails + ctL ctEntry (atX (askX x) c k).Cluster.Sealed ≤ 100000000000000000 := ctCluster_small (atX_small (ask_fits x) c k)
end Go.Proofs.YtfblopmploohkaaGreatDoor
