/- The reference's cluster: codes, a mail copied, a cluster copied (written by gJ7.py, own work). -/
import Derived.Test.YtdjfehjddfbbjaaGreatZJ5
import Derived.Test.YtdjfehjddfbbjaaGreatZB
set_option linter.unusedVariables false
set_option linter.unusedSimpArgs false
namespace Go.Proofs.YtdjfehjddfbbjaaGreat
open Go Go.RowKit Mk
set_option maxRecDepth 100000 in
theorem l11Bad_c (k : Int) (w : World) : Calls Tryz.prog 166 #[.int .i64 k] w fun r w' => r = .returned (.agg #[.int .i64 k, .slice none 0 0, .slice none 0 0, .slice none 0 0]) ∧ Below w.heap.size w w' := by
  go_enter Tryz.func166, Tryz.ntmps166
  go_wp2_with fail
  refine bodyPost_ret (v := .agg #[.int .i64 k, .slice none 0 0, .slice none 0 0, .slice none 0 0]) (by simp [results, Tryz.results166, go_sem]) rfl ⟨rfl, ?_⟩
  repeat (first | (with_reducible assumption) | (with_reducible exact Below.refl _ _) | (with_reducible apply below_alloc) | (with_reducible apply below_drewN) | (with_reducible apply Below.drew) | (with_reducible refine below_set ?_ (by dsimp only; omega) _) | (with_reducible refine below_trans ?_ (by assumption)))
set_option maxRecDepth 100000 in
set_option maxHeartbeats 4000000 in
theorem l11Place_cc (c : SCluster) (k : Int) (p : Addr) (w : World) (h : At kCluster w p c) (hn : c.Nodes.length ≤ 5) :
    Calls Tryz.prog 105 #[.pointer (some p), .int .i64 k] w fun e w' => e = .returned (.bool (wi k 0 (c.Nodes.length - 1))) ∧ w = w' := by
  obtain ⟨A0, c0, A1, c1, A2, c2, hh⟩ := atCluster h
  obtain ⟨f0, f1, f2, h0, h1, h2⟩ := hh
  clear h h0 h1 h2
  go_enter Tryz.func105, Tryz.ntmps105
  go_wp2_with ((go_at_call 84; (with_reducible refine (l1In_c k 0 (c.Nodes.length - 1) w).mono ?_); rintro e w' ⟨rfl, rfl⟩))
  go_ret
  exact ⟨rfl, rfl⟩
set_option maxRecDepth 100000 in
set_option maxHeartbeats 4000000 in
theorem l11Node_fault (c : SCluster) (k : Int) (p : Addr) (w : World) (h : At kCluster w p c) (q : (clusF c != 0) = true) :
    Calls Tryz.prog 187 #[.pointer (some p), .int .i64 k] w fun e w' => e = .returned (.int .i64 (clusF c)) ∧ Below w.heap.size w w' := by
  have HF := Lib.hid (l11Fault_c c p w h)
  clear h
  go_enter Tryz.func187, Tryz.ntmps187
  go_wp2_with fail
  refine HF.out.mono ?_
  rintro e w1 ⟨rfl, hb1⟩
  go_wp2_with fail
  go_ret
  exact ⟨rfl, hb1⟩
set_option maxRecDepth 100000 in
set_option maxHeartbeats 4000000 in
theorem l11Node_range (c : SCluster) (k : Int) (p : Addr) (w : World) (h : At kCluster w p c) (q : (clusF c != 0) = false) (q2 : wi k 0 (c.Nodes.length - 1) = false) :
    Calls Tryz.prog 187 #[.pointer (some p), .int .i64 k] w fun e w' => e = .returned (.int .i64 3) ∧ Below w.heap.size w w' := by
  have HF := Lib.hid (l11Fault_c c p w h)
  have hn := (clusF_nums q).n5
  have HP := Lib.hid (fun (W : World) (hW : At kCluster W p c) => l11Place_cc c k p W hW hn)
  rw [q2] at HP
  go_enter Tryz.func187, Tryz.ntmps187
  go_wp2_with fail
  refine HF.out.mono ?_
  rintro e w1 ⟨rfl, hb1⟩
  have hp := HP.out w1 (h.below hb1)
  clear h hn q2
  go_wp2_with fail
  refine hp.mono ?_
  rintro e w2 ⟨rfl, rfl⟩
  go_wp2_with fail
  go_ret
  exact ⟨rfl, hb1⟩
set_option maxRecDepth 100000 in
set_option maxHeartbeats 4000000 in
theorem l11Node_fine (c : SCluster) (k : Int) (p : Addr) (w : World) (h : At kCluster w p c) (q : (clusF c != 0) = false) (q2 : wi k 0 (c.Nodes.length - 1) = true) :
    Calls Tryz.prog 187 #[.pointer (some p), .int .i64 k] w fun e w' => e = .returned (.int .i64 0) ∧ Below w.heap.size w w' := by
  have HF := Lib.hid (l11Fault_c c p w h)
  have hn := (clusF_nums q).n5
  have HP := Lib.hid (fun (W : World) (hW : At kCluster W p c) => l11Place_cc c k p W hW hn)
  rw [q2] at HP
  go_enter Tryz.func187, Tryz.ntmps187
  go_wp2_with fail
  refine HF.out.mono ?_
  rintro e w1 ⟨rfl, hb1⟩
  have hp := HP.out w1 (h.below hb1)
  clear h hn q2
  go_wp2_with fail
  refine hp.mono ?_
  rintro e w2 ⟨rfl, rfl⟩
  go_wp2_with fail
  go_ret
  exact ⟨rfl, hb1⟩
set_option maxRecDepth 100000 in
set_option maxHeartbeats 4000000 in
theorem l11Mail_c (m : SMail) (A13 : Option Addr) (c13 : Nat) (w : World) (h13 : RdS kEntry w A13 c13 m.Log) (hs : m.Log.length ≤ 1048576) :
    Calls Tryz.prog 202 #[.agg #[.int .i64 m.Kind, .int .i64 m.From, .int .i64 m.To, .int .i64 m.View, .int .i64 m.At, .bool m.Has, .int .i64 m.Entry.Client, .int .i64 m.Entry.Seq, .int .i64 m.Entry.Op.Kind, .int .i64 m.Entry.Op.Vol, .int .i64 m.Entry.Op.At, .int .i64 m.Entry.Op.Value, .int .i64 m.Last, .slice A13 m.Log.length c13, .int .i64 m.Commit]] w fun r w' => LaidMail m w r w' := by
  go_enter Tryz.func202, Tryz.ntmps202
  go_wp2_with fail
  refine (l8Copy_c m.Log A13 c13 _ (h13.below (by repeat (first | (with_reducible assumption) | (with_reducible exact Below.refl _ _) | (with_reducible apply below_alloc) | (with_reducible apply below_drewN) | (with_reducible apply Below.drew) | (with_reducible refine below_set ?_ (by dsimp only; omega) _) | (with_reducible refine below_trans ?_ (by assumption))))) hs).mono ?_
  rintro e w1 ⟨B13, d13, fl, rfl, ol, nl, hb1⟩
  have bw1 : Below w.heap.size w w1 := by repeat (first | (with_reducible assumption) | (with_reducible exact Below.refl _ _) | (with_reducible apply below_alloc) | (with_reducible apply below_drewN) | (with_reducible apply Below.drew) | (with_reducible refine below_set ?_ (by dsimp only; omega) _) | (with_reducible refine below_trans ?_ (by assumption)))
  have xB : Blk w1 w.heap.size 51 [.int .i64 m.Kind, .int .i64 m.From, .int .i64 m.To, .int .i64 m.View, .int .i64 m.At, .bool m.Has, .int .i64 m.Entry.Client, .int .i64 m.Entry.Seq, .int .i64 m.Entry.Op.Kind, .int .i64 m.Entry.Op.Vol, .int .i64 m.Entry.Op.At, .int .i64 m.Entry.Op.Value, .int .i64 m.Last, .slice A13 m.Log.length c13, .int .i64 m.Commit] := ((blk_alloc w [.int .i64 m.Kind, .int .i64 m.From, .int .i64 m.To, .int .i64 m.View, .int .i64 m.At, .bool m.Has, .int .i64 m.Entry.Client, .int .i64 m.Entry.Seq, .int .i64 m.Entry.Op.Kind, .int .i64 m.Entry.Op.Vol, .int .i64 m.Entry.Op.At, .int .i64 m.Entry.Op.Value, .int .i64 m.Last, .slice A13 m.Log.length c13, .int .i64 m.Commit] 51).below (below_alloc (Below.refl _ _) _)).below hb1
  have zB : Blk w1 (w.heap.size + 1) 51 [.int .i64 0, .int .i64 0, .int .i64 0, .int .i64 0, .int .i64 0, .bool false, .int .i64 0, .int .i64 0, .int .i64 0, .int .i64 0, .int .i64 0, .int .i64 0, .int .i64 0, .slice none 0 0, .int .i64 0] := by
    have := (blk_alloc (w.alloc (.cells #[.int .i64 m.Kind, .int .i64 m.From, .int .i64 m.To, .int .i64 m.View, .int .i64 m.At, .bool m.Has, .int .i64 m.Entry.Client, .int .i64 m.Entry.Seq, .int .i64 m.Entry.Op.Kind, .int .i64 m.Entry.Op.Vol, .int .i64 m.Entry.Op.At, .int .i64 m.Entry.Op.Value, .int .i64 m.Last, .slice A13 m.Log.length c13, .int .i64 m.Commit] 51)) [.int .i64 0, .int .i64 0, .int .i64 0, .int .i64 0, .int .i64 0, .bool false, .int .i64 0, .int .i64 0, .int .i64 0, .int .i64 0, .int .i64 0, .int .i64 0, .int .i64 0, .slice none 0 0, .int .i64 0] 51).below hb1
    rwa [Deep.nblk_alloc] at this
  have lo1 : w.heap.size + 2 ≤ w1.heap.size := by have := hb1.size; simp only [Deep.nblk_alloc] at this; omega
  have il : ∀ b ∈ fl, w.heap.size + 2 ≤ b ∧ b < w1.heap.size := fun b hb => by have := ol.in b hb; simp only [Deep.nblk_alloc] at this; omega
  replace ol := ol.lift (B' := w.heap.size) (fun b hb => by have := (il b hb).1; omega)
  have x13 := xB.cell (j := 13) rfl
  have y13 := xB.frozen 13
  go_upto_region 2 with fail
  refine at_world (fun W => Blk W w.heap.size 51 [.int .i64 m.Kind, .int .i64 m.From, .int .i64 m.To, .int .i64 m.View, .int .i64 m.At, .bool m.Has, .int .i64 m.Entry.Client, .int .i64 m.Entry.Seq, .int .i64 m.Entry.Op.Kind, .int .i64 m.Entry.Op.Vol, .int .i64 m.Entry.Op.At, .int .i64 m.Entry.Op.Value, .int .i64 m.Last, .slice B13 m.Log.length d13, .int .i64 m.Commit] ∧ Blk W (w.heap.size + 1) 51 [.int .i64 0, .int .i64 0, .int .i64 0, .int .i64 0, .int .i64 0, .bool false, .int .i64 0, .int .i64 0, .int .i64 0, .int .i64 0, .int .i64 0, .int .i64 0, .int .i64 0, .slice none 0 0, .int .i64 0] ∧ Turn [w.heap.size] w1 W) ⟨xB.set0 13 _, zB.set_ne (by simp) _, (Turn.refl _ _).set (by simp) _⟩ ?_
  rintro W2 ⟨xC, zC, t2⟩
  clear x13 y13 xB zB
  have bw2 : Below w.heap.size w W2 := bw1.trans (t2.below (by simp) (by omega))
  replace ol := OwnS.turn ol t2 (fun b hb hm => by simp at hm; have := il b hb; omega)
  have x0 := xC.cell (j := 0) rfl
  have r0 := zC.cell (j := 0) rfl
  have y0 := zC.frozen 0
  have x1 := xC.cell (j := 1) rfl
  have r1 := zC.cell (j := 1) rfl
  have y1 := zC.frozen 1
  have x2 := xC.cell (j := 2) rfl
  have r2 := zC.cell (j := 2) rfl
  have y2 := zC.frozen 2
  have x3 := xC.cell (j := 3) rfl
  have r3 := zC.cell (j := 3) rfl
  have y3 := zC.frozen 3
  have x4 := xC.cell (j := 4) rfl
  have r4 := zC.cell (j := 4) rfl
  have y4 := zC.frozen 4
  have x5 := xC.cell (j := 5) rfl
  have r5 := zC.cell (j := 5) rfl
  have y5 := zC.frozen 5
  have x6 := xC.cell (j := 6) rfl
  have r6 := zC.cell (j := 6) rfl
  have y6 := zC.frozen 6
  have x7 := xC.cell (j := 7) rfl
  have r7 := zC.cell (j := 7) rfl
  have y7 := zC.frozen 7
  have x8 := xC.cell (j := 8) rfl
  have r8 := zC.cell (j := 8) rfl
  have y8 := zC.frozen 8
  have x9 := xC.cell (j := 9) rfl
  have r9 := zC.cell (j := 9) rfl
  have y9 := zC.frozen 9
  have x10 := xC.cell (j := 10) rfl
  have r10 := zC.cell (j := 10) rfl
  have y10 := zC.frozen 10
  have x11 := xC.cell (j := 11) rfl
  have r11 := zC.cell (j := 11) rfl
  have y11 := zC.frozen 11
  have x12 := xC.cell (j := 12) rfl
  have r12 := zC.cell (j := 12) rfl
  have y12 := zC.frozen 12
  have x13 := xC.cell (j := 13) rfl
  have r13 := zC.cell (j := 13) rfl
  have y13 := zC.frozen 13
  have x14 := xC.cell (j := 14) rfl
  have r14 := zC.cell (j := 14) rfl
  have y14 := zC.frozen 14
  go_wp2_with fail
  refine bodyPost_ret (v := .agg #[.int .i64 m.Kind, .int .i64 m.From, .int .i64 m.To, .int .i64 m.View, .int .i64 m.At, .bool m.Has, .int .i64 m.Entry.Client, .int .i64 m.Entry.Seq, .int .i64 m.Entry.Op.Kind, .int .i64 m.Entry.Op.Vol, .int .i64 m.Entry.Op.At, .int .i64 m.Entry.Op.Value, .int .i64 m.Last, .slice B13 m.Log.length d13, .int .i64 m.Commit]) (by simp [results, Tryz.results202, go_sem, r0, r1, r2, r3, r4, r5, r6, r7, r8, r9, r10, r11, r12, r13, r14]) rfl ⟨B13, d13, fl, rfl, ?_, nl, ?_⟩
  · have hz : W2.heap.size = w1.heap.size ∨ True := .inr trivial
    refine OwnS.past (lo := w.heap.size + 2) (lo2 := w.heap.size) (w := W2) (ol.lift (B' := w.heap.size + 2) (fun b hb => (il b hb).1)) ?_ (by omega) (by omega)
    repeat (first | (with_reducible exact Past.refl _ _) | (with_reducible refine Past.set ?_ (by omega) _))
  · repeat (first | (with_reducible assumption) | (with_reducible exact Below.refl _ _) | (with_reducible apply below_alloc) | (with_reducible apply below_drewN) | (with_reducible apply Below.drew) | (with_reducible refine below_set ?_ (by dsimp only; omega) _) | (with_reducible refine below_trans ?_ (by assumption)))
set_option maxRecDepth 100000 in
set_option maxHeartbeats 4000000 in
theorem l11Copy_c (x : SCluster) (A0 : Option Addr) (c0 : Nat) (A1 : Option Addr) (c1 : Nat) (A2 : Option Addr) (c2 : Nat) (w : World) (h0 : RdS kReplica w A0 c0 x.Nodes) (h1 : RdS kMail w A1 c1 x.Mails) (h2 : RdS kEntry w A2 c2 x.Sealed) (hs : SmallClu x) :
    Calls Tryz.prog 201 #[.agg #[.slice A0 x.Nodes.length c0, .slice A1 x.Mails.length c1, .slice A2 x.Sealed.length c2]] w fun r w' => CopiedClu x w r w' := by
  obtain ⟨s0, sn, s1, sm, s2⟩ := hs
  have hl0 := h0.le63
  have hl1 := h1.le63
  have b0 : Below w.heap.size w ((w.alloc (.cells #[.slice A0 x.Nodes.length c0, .slice A1 x.Mails.length c1, .slice A2 x.Sealed.length c2] 42)).alloc (.cells #[.slice none 0 0, .slice none 0 0, .slice none 0 0] 42)) := below_alloc (below_alloc (Below.refl _ _) _) _
  go_enter Tryz.func201, Tryz.ntmps201
  go_wp2_with fail
  refine (l8Copy_c x.Sealed A2 c2 _ (h2.below b0) s2).mono ?_
  rintro e w1 ⟨B2, d2, f2, rfl, o2, n2, hb1⟩
  have xB : Blk w1 w.heap.size 42 [.slice A0 x.Nodes.length c0, .slice A1 x.Mails.length c1, .slice A2 x.Sealed.length c2] := ((blk_alloc w [.slice A0 x.Nodes.length c0, .slice A1 x.Mails.length c1, .slice A2 x.Sealed.length c2] 42).below (below_alloc (Below.refl _ _) _)).below hb1
  have zB : Blk w1 (w.heap.size + 1) 42 [.slice none 0 0, .slice none 0 0, .slice none 0 0] := by
    have := (blk_alloc (w.alloc (.cells #[.slice A0 x.Nodes.length c0, .slice A1 x.Mails.length c1, .slice A2 x.Sealed.length c2] 42)) [.slice none 0 0, .slice none 0 0, .slice none 0 0] 42).below hb1
    rwa [Deep.nblk_alloc] at this
  have lo1 : w.heap.size + 2 ≤ w1.heap.size := by have := hb1.size; simp only [Deep.nblk_alloc] at this; omega
  have i2 : ∀ b ∈ f2, w.heap.size + 2 ≤ b ∧ b < w1.heap.size := fun b hb => by have := o2.in b hb; simp only [Deep.nblk_alloc] at this; omega
  replace o2 : OwnS kEntry 49 (w.heap.size + 2) w1 f2 (.slice B2 x.Sealed.length d2) x.Sealed := o2.lift (fun b hb => (i2 b hb).1)
  have bw1 : Below w.heap.size w w1 := below_trans b0 hb1
  clear hb1 b0
  go_upto_region 2 with fail
  refine at_world (fun W => Blk W w1.heap.size 42 [.slice none 0 0, .slice none 0 0, .slice B2 x.Sealed.length d2] ∧ Below w1.heap.size w1 W ∧ w1.heap.size < W.heap.size) ⟨blk_alloc w1 [.slice none 0 0, .slice none 0 0, .slice B2 x.Sealed.length d2] _, below_alloc (Below.refl _ _) _, by rw [Deep.nblk_alloc]; omega⟩ ?_
  rintro W2 ⟨yB, b2, l2⟩
  replace xB := xB.below b2
  replace zB := zB.below b2
  replace o2 := OwnS.bel' o2 b2
  have bw2 := below_trans bw1 b2
  have sw := bw2.size
  clear b2 bw1
  go_wp2_with fail
  go_loopw [4] (fun j W => ∃ k : Nat, k ≤ x.Nodes.length ∧ j = .int .i64 k ∧ ∃ vv fp, OwnS kReplica 29 W2.heap.size W fp vv (x.Nodes.take k) ∧ fp.Nodup ∧ Blk W w1.heap.size 42 [vv, .slice none 0 0, .slice B2 x.Sealed.length d2] ∧ Turn [w1.heap.size] W2 W) (fun j _ => x.Nodes.length - (intOf j).toNat)
  case atStart => exact ⟨0, Nat.zero_le _, rfl, .slice none 0 0, [], by simpa using ownS_nil _ _ _, List.nodup_nil, yB, Turn.refl _ _⟩
  case round =>
    obtain ⟨k, hk, rfl, vv, fp, ow, nd, yK, ht⟩ := hrel
    obtain ⟨AV, cV, rfl, _⟩ := ow.form
    rw [List.length_take, Nat.min_eq_left hk] at ow yK
    have lk := yK.lt
    have sT := ht.size
    have hin := ow.in
    have hb : Below w.heap.size w wr := bw2.trans (ht.below (by simp; omega) (by omega))
    have xK := xB.turn ht (by simp; omega)
    have x0 := xK.cell (j := 0) rfl
    by_cases hlt : k < x.Nodes.length
    · have hlt' : (k : Int) < (x.Nodes.length : Int) := by omega
      obtain ⟨a, ea, hx⟩ := (h0.below hb).at_ hlt
      subst ea
      have hsm := sn _ (List.getElem_mem hlt)
      have htk := Lib.hid (List.take_succ_eq_append_getElem hlt)
      generalize x.Nodes[k] = n at hx hsm htk
      simp only [show kReplica.sz = 10 from rfl] at hx
      obtain ⟨E5, e5, E7, e7, E8, e8, E9, e9, hq⟩ := atReplica hx
      obtain ⟨q0, q1, q2, q3, q4, q5, q6, q7, q8, q9, g5, g7, g8, g9⟩ := hq
      have hln := Lib.hid (show (x.Nodes.take k).length = k by rw [List.length_take, Nat.min_eq_left hk])
      generalize hys : x.Nodes.take k = ys at ow hln htk
      go_upto_region 5 with fail
      have v0 := yK.cell (j := 0) rfl
      have z0 := yK.frozen 0
      go_region_law (first | (refine step_app (d := kReplica) (zs := [n]) (ys := ys) (fp := fp) (fs := f6 ++ (f8 ++ (f9 ++ f10))) (v := .slice AV k cV) (x := .slice (some ⟨w5.heap.size, 0, none⟩) 1 1) (ce := [.int .i64 n.Id, .int .i64 n.Size, .int .i64 n.View, .bool n.Normal, .int .i64 n.Last, .slice F5 n.Log.length c5, .int .i64 n.Commit, .slice F7 n.Oks.length c7, .slice F8 n.Asks.length c8, .slice F9 n.Doers.length c9]) (B := W2.heap.size) rfl (.tmp 18) (.tmp 25) 40 29 rfl (by kernel_rfl) (by kernel_rfl) (by simp [Act.eval, Act.put]) (by simp [Act.eval, Act.put]) (OwnS.keep ow5 (fun b hb => Below.heap_alloc w5 _ _ (ow5.in b hb).2)) nd (Src.ofSlice (P := Tryz.prog) (e' := 29) _ (by kernel_rfl) ⟨w5.heap.size, 0, none⟩ 1 1 _ rfl (lies_alloc w5 #[.int .i64 n.Id, .int .i64 n.Size, .int .i64 n.View, .bool n.Normal, .int .i64 n.Last, .slice F5 n.Log.length c5, .int .i64 n.Commit, .slice F7 n.Oks.length c7, .slice F8 n.Asks.length c8, .slice F9 n.Doers.length c9] 29) (kReplica.rd_one (kReplica.own_rd oL))) (OwnL.single oL) ndR hdN (by rw [hln.out]; simp; omega) (by show _ ≤ (w5.alloc _).heap.size; rw [Deep.nblk_alloc]; omega) ?_; intro v' w' fp' hgr; obtain ⟨r1, r2, r3, r4⟩ := hgr; obtain ⟨AA, cA, rfl, _⟩ := r1.form; have yA := y6.keep (w' := w') (r3.block _ y6.lt (fun hm => by have := (hin _ hm).1; omega)); have qA := yA.cell (j := 0) rfl; have fA := yA.frozen 0) | ((try go_simp); go_at_call 49; refine (l9Copy_c n E5 e5 E7 e7 E8 e8 E9 e9 _ (g5.below (by repeat (first | (with_reducible assumption) | (with_reducible exact Below.refl _ _) | (with_reducible apply below_alloc) | (with_reducible apply below_drewN) | (with_reducible apply Below.drew) | (with_reducible refine below_set ?_ (by dsimp only; omega) _) | (with_reducible refine below_trans ?_ (by assumption))))) (g7.below (by repeat (first | (with_reducible assumption) | (with_reducible exact Below.refl _ _) | (with_reducible apply below_alloc) | (with_reducible apply below_drewN) | (with_reducible apply Below.drew) | (with_reducible refine below_set ?_ (by dsimp only; omega) _) | (with_reducible refine below_trans ?_ (by assumption))))) (g8.below (by repeat (first | (with_reducible assumption) | (with_reducible exact Below.refl _ _) | (with_reducible apply below_alloc) | (with_reducible apply below_drewN) | (with_reducible apply Below.drew) | (with_reducible refine below_set ?_ (by dsimp only; omega) _) | (with_reducible refine below_trans ?_ (by assumption))))) (g9.below (by repeat (first | (with_reducible assumption) | (with_reducible exact Below.refl _ _) | (with_reducible apply below_alloc) | (with_reducible apply below_drewN) | (with_reducible apply Below.drew) | (with_reducible refine below_set ?_ (by dsimp only; omega) _) | (with_reducible refine below_trans ?_ (by assumption))))) hsm).mono ?_; rintro e w5 ⟨F5, c5, F7, c7, F8, c8, F9, c9, f6, f8, f9, f10, rfl, ⟨o6, o8, o9, o10, ndR⟩, hb5⟩; have b5 : Below wr.heap.size wr w5 := (below_trans (Below.refl _ _).drew hb5); have y5 := yK.below b5; have v5 := y5.cell (j := 0) rfl; have zz5 := y5.frozen 0; have y6 := y5.below (below_alloc (Below.refl _ _) (.cells #[.int .i64 n.Id, .int .i64 n.Size, .int .i64 n.View, .bool n.Normal, .int .i64 n.Last, .slice F5 n.Log.length c5, .int .i64 n.Commit, .slice F7 n.Oks.length c7, .slice F8 n.Asks.length c8, .slice F9 n.Doers.length c9] 29)); have v6 := y6.cell (j := 0) rfl; have ow5 := OwnS.bel' ow b5; have s5 := b5.size; have oL := new_own (B' := W2.heap.size) n (by show _ ≤ wr.heap.size; omega) (.cells #[.int .i64 n.Id, .int .i64 n.Size, .int .i64 n.View, .bool n.Normal, .int .i64 n.Last, .slice F5 n.Log.length c5, .int .i64 n.Commit, .slice F7 n.Oks.length c7, .slice F8 n.Asks.length c8, .slice F9 n.Doers.length c9] 29) o6 o8 o9 o10; have hdN := new_far (m := wr.heap.size) (fun b hb => by have := (hin b hb).2; omega) (fun b hb => (o6.in b hb).1) (fun b hb => (o8.in b hb).1) (fun b hb => (o9.in b hb).1) (fun b hb => (o10.in b hb).1)))
      all_goals (go_wp2_with fail)
      all_goals
        rw [hln.out]
        rw [← htk.out] at r1
        rw [List.length_take, Nat.min_eq_left (show k + 1 ≤ x.Nodes.length from hlt)] at r1
        have hT : Turn [w1.heap.size] W2 w' := Turn.fresh (ht.trans (Turn.of_below (below_alloc b5 _))) r3 (fun b hb => .inr (hin b hb).1)
        exact ⟨⟨k + 1, hlt, by go_num, .slice AA (k + 1) cA, fp', OwnS.turn r1 ((Turn.refl [w1.heap.size] w').set (p := ⟨w1.heap.size, 0, none⟩) (by simp) _) (fun b hb hm => by have := (r1.in b hb).1; simp at hm; omega), r2, yA.set0 0 _, hT.set (p := ⟨w1.heap.size, 0, none⟩) (by simp) _⟩, by simp [intOf]; omega⟩
    · have hk' : k = x.Nodes.length := by omega
      subst hk'
      rw [List.take_length] at ow
      obtain ⟨V, hV⟩ : ∃ V, V = wr := ⟨_, rfl⟩
      subst hV
      have zV := zB.turn ht (by simp; omega)
      have oV := OwnS.turn o2 ht (by intro b hb hm; simp at hm; have := (i2 b hb).2; omega)
      clear xB zB o2 yB
      have lV := xK.lt
      go_wp2_with fail
      clear x0
      go_loopw [5] (fun j W => ∃ k : Nat, k ≤ x.Mails.length ∧ j = .int .i64 k ∧ ∃ vv fq, OwnS kMail 51 V.heap.size W fq vv (x.Mails.take k) ∧ fq.Nodup ∧ Blk W w1.heap.size 42 [.slice AV x.Nodes.length cV, vv, .slice B2 x.Sealed.length d2] ∧ Turn [w1.heap.size] V W) (fun j _ => x.Mails.length - (intOf j).toNat)
      case atStart => exact ⟨0, Nat.zero_le _, rfl, .slice none 0 0, [], by simpa using ownS_nil _ _ _, List.nodup_nil, yK, Turn.refl _ _⟩
      case round =>
        obtain ⟨k, hk, rfl, vv, fq, ow2, nd2, yM, ht2⟩ := hrel
        obtain ⟨AW, cW, rfl, _⟩ := ow2.form
        rw [List.length_take, Nat.min_eq_left hk] at ow2 yM
        have sT2 := ht2.size
        have hin2 := ow2.in
        have hb2 : Below w.heap.size w wr := hb.trans (ht2.below (by simp; omega) (by omega))
        have xM := xK.turn ht2 (by simp; omega)
        have x1 := xM.cell (j := 1) rfl
        have lM := yM.lt
        by_cases hlt : k < x.Mails.length
        · have hlt' : (k : Int) < (x.Mails.length : Int) := by omega
          obtain ⟨a, ea, hx⟩ := (h1.below hb2).at_ hlt
          subst ea
          have hsm := sm _ (List.getElem_mem hlt)
          have htk := Lib.hid (List.take_succ_eq_append_getElem hlt)
          generalize x.Mails[k] = m at hx hsm htk
          simp only [show kMail.sz = 15 from rfl] at hx
          obtain ⟨E13, e13, hq⟩ := atMail hx
          obtain ⟨q0, q1, q2, q3, q4, q5, q6, q7, q8, q9, q10, q11, q12, q13, q14, g13⟩ := hq
          have hln := Lib.hid (show (x.Mails.take k).length = k by rw [List.length_take, Nat.min_eq_left hk])
          generalize hys : x.Mails.take k = ys at ow2 hln htk
          go_upto_region 9 with fail
          have v1 := yM.cell (j := 1) rfl
          have z1 := yM.frozen 1
          go_region_law (first | (refine step_app (d := kMail) (zs := [m]) (ys := ys) (fp := fq) (fs := fl) (v := .slice AW k cW) (x := .slice (some ⟨w5.heap.size, 0, none⟩) 1 1) (ce := [.int .i64 m.Kind, .int .i64 m.From, .int .i64 m.To, .int .i64 m.View, .int .i64 m.At, .bool m.Has, .int .i64 m.Entry.Client, .int .i64 m.Entry.Seq, .int .i64 m.Entry.Op.Kind, .int .i64 m.Entry.Op.Vol, .int .i64 m.Entry.Op.At, .int .i64 m.Entry.Op.Value, .int .i64 m.Last, .slice F13 m.Log.length i13, .int .i64 m.Commit]) (B := V.heap.size) rfl (.tmp 36) (.tmp 43) 31 51 rfl (by kernel_rfl) (by kernel_rfl) (by simp [Act.eval, Act.put]) (by simp [Act.eval, Act.put]) (OwnS.keep ow5 (fun b hb => Below.heap_alloc w5 _ _ (ow5.in b hb).2)) nd2 (Src.ofSlice (P := Tryz.prog) (e' := 51) _ (by kernel_rfl) ⟨w5.heap.size, 0, none⟩ 1 1 _ rfl (lies_alloc w5 #[.int .i64 m.Kind, .int .i64 m.From, .int .i64 m.To, .int .i64 m.View, .int .i64 m.At, .bool m.Has, .int .i64 m.Entry.Client, .int .i64 m.Entry.Seq, .int .i64 m.Entry.Op.Kind, .int .i64 m.Entry.Op.Vol, .int .i64 m.Entry.Op.At, .int .i64 m.Entry.Op.Value, .int .i64 m.Last, .slice F13 m.Log.length i13, .int .i64 m.Commit] 51) (kMail.rd_one (kMail.own_rd oL))) (OwnL.single oL) nl hdN (by rw [hln.out]; simp; omega) (by show _ ≤ (w5.alloc _).heap.size; rw [Deep.nblk_alloc]; omega) ?_; intro v' w' fp' hgr; obtain ⟨r1, r2, r3, r4⟩ := hgr; obtain ⟨AA, cA, rfl, _⟩ := r1.form; have yA := y6.keep (w' := w') (r3.block _ y6.lt (fun hm => by have := (hin2 _ hm).1; omega)); have qA := yA.cell (j := 1) rfl; have fA := yA.frozen 1) | ((try go_simp); go_at_call 202; refine (l11Mail_c m E13 e13 _ (g13.below (by repeat (first | (with_reducible assumption) | (with_reducible exact Below.refl _ _) | (with_reducible apply below_alloc) | (with_reducible apply below_drewN) | (with_reducible apply Below.drew) | (with_reducible refine below_set ?_ (by dsimp only; omega) _) | (with_reducible refine below_trans ?_ (by assumption))))) hsm).mono ?_; rintro e w5 ⟨F13, i13, fl, rfl, ol, nl, hb5⟩; have b5 : Below wr.heap.size wr w5 := (below_trans (Below.refl _ _).drew hb5); have y5 := yM.below b5; have v5 := y5.cell (j := 1) rfl; have zz5 := y5.frozen 1; have y6 := y5.below (below_alloc (Below.refl _ _) (.cells #[.int .i64 m.Kind, .int .i64 m.From, .int .i64 m.To, .int .i64 m.View, .int .i64 m.At, .bool m.Has, .int .i64 m.Entry.Client, .int .i64 m.Entry.Seq, .int .i64 m.Entry.Op.Kind, .int .i64 m.Entry.Op.Vol, .int .i64 m.Entry.Op.At, .int .i64 m.Entry.Op.Value, .int .i64 m.Last, .slice F13 m.Log.length i13, .int .i64 m.Commit] 51)); have v6 := y6.cell (j := 1) rfl; have ow5 := OwnS.bel' ow2 b5; have s5 := b5.size; have il : ∀ b ∈ fl, wr.heap.size ≤ b := fun b hb => (ol.in b hb).1; have oL : kMail.Own V.heap.size (w5.alloc (.cells #[.int .i64 m.Kind, .int .i64 m.From, .int .i64 m.To, .int .i64 m.View, .int .i64 m.At, .bool m.Has, .int .i64 m.Entry.Client, .int .i64 m.Entry.Seq, .int .i64 m.Entry.Op.Kind, .int .i64 m.Entry.Op.Vol, .int .i64 m.Entry.Op.At, .int .i64 m.Entry.Op.Value, .int .i64 m.Last, .slice F13 m.Log.length i13, .int .i64 m.Commit] 51)) fl [.int .i64 m.Kind, .int .i64 m.From, .int .i64 m.To, .int .i64 m.View, .int .i64 m.At, .bool m.Has, .int .i64 m.Entry.Client, .int .i64 m.Entry.Seq, .int .i64 m.Entry.Op.Kind, .int .i64 m.Entry.Op.Vol, .int .i64 m.Entry.Op.At, .int .i64 m.Entry.Op.Value, .int .i64 m.Last, .slice F13 m.Log.length i13, .int .i64 m.Commit] m := kMail_ownmk m (h13 := OwnS.lift (OwnS.keep ol (fun b hb => Below.heap_alloc _ _ _ (ol.in b hb).2)) (fun b hb => by have := il b hb; omega)); have hdN : ∀ b ∈ fq, b ∉ fl := fun b hb hm => by have := (hin2 b hb).2; have := il b hm; omega))
          all_goals (go_wp2_with fail)
          all_goals
            rw [hln.out]
            rw [← htk.out] at r1
            rw [List.length_take, Nat.min_eq_left (show k + 1 ≤ x.Mails.length from hlt)] at r1
            have hT : Turn [w1.heap.size] V w' := Turn.fresh (ht2.trans (Turn.of_below (below_alloc b5 _))) r3 (fun b hb => .inr (hin2 b hb).1)
            exact ⟨⟨k + 1, hlt, by go_num, .slice AA (k + 1) cA, fp', OwnS.turn r1 ((Turn.refl [w1.heap.size] w').set (p := ⟨w1.heap.size, 1, none⟩) (by simp) _) (fun b hb hm => by have := (r1.in b hb).1; simp at hm; omega), r2, yA.set0 1 _, hT.set (p := ⟨w1.heap.size, 1, none⟩) (by simp) _⟩, by simp [intOf]; omega⟩
        · have hk' : k = x.Mails.length := by omega
          subst hk'
          rw [List.take_length] at ow2
          have zW := zV.turn ht2 (by simp; omega)
          have p0 := OwnS.turn ow ht2 (by intro b hb hm; simp at hm; have := (hin b hb).1; omega)
          have p2 := OwnS.turn oV ht2 (by intro b hb hm; simp at hm; have := (i2 b hb).2; omega)
          have xx0 := yM.cell (j := 0) rfl
          have xx1 := yM.cell (j := 1) rfl
          have xx2 := yM.cell (j := 2) rfl
          have r0 := zW.cell (j := 0) rfl
          have r1 := zW.cell (j := 1) rfl
          have r2 := zW.cell (j := 2) rfl
          have e0 := zW.frozen 0
          have e1 := zW.frozen 1
          have e2 := zW.frozen 2
          go_wp2_with fail
          refine bodyPost_ret (v := .agg #[.slice AV x.Nodes.length cV, .slice AW x.Mails.length cW, .slice B2 x.Sealed.length d2]) (by simp [results, Tryz.results201, go_sem, r0, r1, r2]) rfl ?_
          refine ⟨AV, cV, AW, cW, B2, d2, fp, fq, f2, rfl, ⟨?_, ?_, ?_, ?_⟩, ?_⟩
          · refine OwnS.past (lo := w.heap.size + 2) p0 ?_ (by omega) (by omega)
            repeat (first | (with_reducible exact Past.refl _ _) | (with_reducible refine Past.set ?_ (by omega) _))
          · refine OwnS.past (lo := w.heap.size + 2) ow2 ?_ (by omega) (by omega)
            repeat (first | (with_reducible exact Past.refl _ _) | (with_reducible refine Past.set ?_ (by omega) _))
          · refine OwnS.past (lo := w.heap.size + 2) p2 ?_ (by omega) (by omega)
            repeat (first | (with_reducible exact Past.refl _ _) | (with_reducible refine Past.set ?_ (by omega) _))
          · refine List.nodup_append.2 ⟨nd, List.nodup_append.2 ⟨nd2, n2, fun a ha c hc hac => ?_⟩, fun a ha c hc hac => ?_⟩
            · have h1 := (hin2 a ha).1
              have h2 := (i2 c hc).2
              omega
            · have h1 := hin a ha
              rcases List.mem_append.1 hc with hc | hc
              · have := (hin2 c hc).1; omega
              · have := (i2 c hc).2; omega
          · repeat (first | (with_reducible assumption) | (with_reducible exact Below.refl _ _) | (with_reducible apply below_alloc) | (with_reducible apply below_drewN) | (with_reducible apply Below.drew) | (with_reducible refine below_set ?_ (by dsimp only; omega) _) | (with_reducible refine below_trans ?_ (by assumption)))
end Go.Proofs.YtdjfehjddfbbjaaGreat
