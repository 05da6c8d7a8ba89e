/- A node drawn: l9Replica (written by gW6.py, own work). -/
import Derived.Test.YtdjfehjddfbbjaaGreatZW7
import Derived.Test.YtdjfehjddfbbjaaGreatZB
import Derived.Test.YtdjfehjddfbbjaaGreatZTw
set_option linter.unusedVariables false
set_option linter.unusedSimpArgs false
namespace Go.Proofs.YtdjfehjddfbbjaaGreat
open Go Go.RowKit Mk
set_option maxRecDepth 100000 in
set_option maxHeartbeats 8000000 in
theorem l9Replica_c {w0 : World} {g : Nat} {code : List (Fin 256)} {A : Option Addr} {c M : Nat} {w : World} (hr : RdS kU8 w0 A c code) (hs : SrcTo w0 g A code.length c M w) (hm : M ≤ 900000) :
    Calls Tryz.prog 75 #[.pointer (some ⟨g, 0, none⟩)] w fun r w' => RepTo w0 g A code.length c (M + 1000) w r w' := by
  have hz : g < w.heap.size := hs.lt
  have hg0 : w0.heap.size ≤ g := hs.ge
  go_enter Tryz.func75, Tryz.ntmps75
  go_upto_region 1 with fail
  refine at_world (fun W => Blk W w.heap.size 29 [.int .i64 0, .int .i64 0, .int .i64 0, .bool false, .int .i64 0, .slice none 0 0, .int .i64 0, .slice none 0 0, .slice none 0 0, .slice none 0 0] ∧ SrcTo w0 g A code.length c M W ∧ Turn [g] w W ∧ w.heap.size + 1 ≤ W.heap.size) ⟨blk_alloc w [.int .i64 0, .int .i64 0, .int .i64 0, .bool false, .int .i64 0, .slice none 0 0, .int .i64 0, .slice none 0 0, .slice none 0 0, .slice none 0 0] _, hs.below (below_alloc (Below.refl _ _) _), (Turn.refl _ _).alloc _, by rw [Deep.nblk_alloc]; omega⟩ ?_
  clear hs
  rintro W ⟨zB, hs, hT, hW⟩
  go_wp2_with fail
  refine (pick_c [3, 3, 1, 2, 5] hr (hs.below (below_alloc (Below.refl _ _) _)) (by omega) (blk_alloc W [.int .i64 3, .int .i64 3, .int .i64 1, .int .i64 2, .int .i64 5] _) (by omega) (by simp) (by simp)).mono ?_
  rintro e w1 ⟨sz, hmem, rfl, hs1, hT1⟩
  have hT1' : Turn [g] W w1 := ((Turn.refl [g] W).alloc _).trans hT1
  replace hT := hT.trans hT1'
  replace zB := zB.turn hT1' (by simp; omega)
  have s1 : w.heap.size + 1 ≤ w1.heap.size := Nat.le_trans hW hT1'.size
  have hsz : 1 ≤ sz ∧ sz ≤ 5 := by
    simp only [List.mem_cons, List.not_mem_nil, or_false] at hmem
    omega
  clear hs hT1 hT1' hmem hW
  go_wp2_with fail
  refine (next_c hr hs1 (by omega) (by omega) (by omega)).mono ?_
  rintro e w2 ⟨id, rfl, idl, -, hs2, hT1⟩
  replace hT := hT.trans hT1
  replace zB := zB.turn hT1 (by simp; omega)
  have s2 := Nat.le_trans s1 hT1.size
  clear hs1 hT1 s1
  go_wp2_with fail
  refine (next_c hr hs2 (by omega) (by omega) (by omega)).mono ?_
  rintro e w3 ⟨vw, rfl, vwl, -, hs3, hT1⟩
  replace vwl := vwl (by omega)
  replace hT := hT.trans hT1
  replace zB := zB.turn hT1 (by simp; omega)
  have s3 := Nat.le_trans s2 hT1.size
  clear hs2 hT1 s2
  go_wp2_with fail
  refine (chance_c hr hs3 (by omega) (by omega) (by omega)).mono ?_
  rintro e w4 ⟨q, rfl, hs4, hT1⟩
  replace hT := hT.trans hT1
  replace zB := zB.turn hT1 (by simp; omega)
  have s4 := Nat.le_trans s3 hT1.size
  clear hs3 hT1 s3
  go_wp2_with fail
  refine (l8Log_c hr hs4 (by omega)).mono ?_
  rintro e w5 ⟨xs, G, y, f, rfl, hxl, ow, nd, hs5, hT1⟩
  replace hT := hT.trans hT1
  replace zB := zB.turn hT1 (by simp; omega)
  have s5 := Nat.le_trans s4 hT1.size
  have hin := ow.in
  clear hs4 hT1
  go_upto_region 3 with fail
  obtain ⟨b, hb⟩ : ∃ b, b = w5.heap.size := ⟨_, rfl⟩
  refine at_world (fun W => DrawSt w0 g A code.length c (M + 70) w b ⟨id, sz, vw, !q, 0, xs, 0, [], [], []⟩ f W) ⟨zB.below (below_alloc (Below.refl _ _) _), ⟨G, y, none, 0, none, 0, none, 0, f, [], [], [], by simp, by subst hb; exact blk_alloc w5 [.int .i64 id, .int .i64 sz, .int .i64 vw, .bool (!q), .int .i64 0, .slice G xs.length y, .int .i64 0, .slice none 0 0, .slice none 0 0, .slice none 0 0] _, ⟨OwnS.lift (OwnS.keep ow (fun b hm => Below.heap_alloc w5 _ _ (hin b hm).2)) (fun y hy => by have := (hin y hy).1; omega), ownS_nil _ _ _, ownS_nil _ _ _, ownS_nil _ _ _, by simpa using nd⟩, fun hm => by have := (hin _ hm).2; omega, rfl, by rw [Deep.nblk_alloc]; omega⟩, (hs5.below (below_alloc (Below.refl _ _) _)).mono (by omega), hT.alloc _, by omega, hz, hg0⟩ ?_
  rw [← hb]
  clear zB hs5 hT s4 s5 hin ow nd hb
  rintro W hD
  obtain ⟨A5, c5, A7, c7, A8, c8, A9, c9, k0, k1, k2, k3, k4, k5, k6, k7, k8, k9, h5, h7, h8, h9⟩ := atReplica (hD.rep).at
  clear h5 h7 h8 h9 k0 k1 k2 k3 k4 k6 k7 k8 k9
  simp only [Nat.zero_add, Nat.add_zero] at k5
  go_wp2_with fail
  refine (next_c hr hD.src (by omega) (by omega) (by omega)).mono ?_
  rintro e w6 ⟨cm, rfl, cml, -, hs, hT1⟩
  replace hD := hD.turnG hT1 hs
  clear hs hT1
  clear k5
  obtain ⟨A5, c5, A7, c7, A8, c8, A9, c9, k0, k1, k2, k3, k4, k5, k6, k7, k8, k9, h5, h7, h8, h9⟩ := atReplica (hD.rep).at
  clear h5 h7 h8 h9 k0 k1 k2 k3 k4 k5 k7 k8 k9
  simp only [Nat.zero_add, Nat.add_zero] at k6
  have z6 := (hD.rep).frozen 6
  simp only [Nat.zero_add] at z6
  go_upto_region 4 with fail
  refine at_world (fun W => DrawSt w0 g A code.length c (M + 71) w b ⟨id, sz, vw, !q, 0, xs, cm, [], [], []⟩ f W) (hD.put (hD.rep.setCommit _)) ?_
  clear hD k6 z6
  rintro W hD
  obtain ⟨A5, c5, A7, c7, A8, c8, A9, c9, k0, k1, k2, k3, k4, k5, k6, k7, k8, k9, h5, h7, h8, h9⟩ := atReplica (hD.rep).at
  clear h5 h7 h8 h9 k0 k1 k3 k4 k5 k6 k7 k8 k9
  simp only [Nat.zero_add, Nat.add_zero] at k2
  go_wp2_with fail
  refine (next_c hr hD.src (by omega) (by omega) (by omega)).mono ?_
  rintro e w7 ⟨ls, rfl, lsl, -, hs, hT1⟩
  replace hD := hD.turnG hT1 hs
  clear hs hT1
  clear k2
  obtain ⟨A5, c5, A7, c7, A8, c8, A9, c9, k0, k1, k2, k3, k4, k5, k6, k7, k8, k9, h5, h7, h8, h9⟩ := atReplica (hD.rep).at
  clear h5 h7 h8 h9 k0 k1 k2 k3 k5 k6 k7 k8 k9
  simp only [Nat.zero_add, Nat.add_zero] at k4
  have z4 := (hD.rep).frozen 4
  simp only [Nat.zero_add] at z4
  go_upto_region 5 with fail
  refine at_world (fun W => DrawSt w0 g A code.length c (M + 72) w b ⟨id, sz, vw, !q, ls, xs, cm, [], [], []⟩ f W) (hD.put (hD.rep.setLast _)) ?_
  clear hD k4 z4 idl vwl cml lsl
  rintro W hD
  have hse : (sz == 0) = false := beq_eq_false_iff_ne.2 (by omega)
  cases q with
  | false =>
    obtain ⟨A5, c5, A7, c7, A8, c8, A9, c9, k0, k1, k2, k3, k4, k5, k6, k7, k8, k9, h5, h7, h8, h9⟩ := atReplica (hD.rep).at
    clear h5 h7 h8 h9 k0 k1 k5 k6 k7 k8 k9
    simp only [Nat.zero_add, Nat.add_zero] at k2
    simp only [Nat.zero_add, Nat.add_zero] at k3
    simp only [Nat.zero_add, Nat.add_zero] at k4
    simp only [Bool.not_false] at k3
    have z4 := (hD.rep).frozen 4
    simp only [Nat.zero_add] at z4
    go_upto_region 7 with fail
    refine at_world (fun W => DrawSt w0 g A code.length c (M + 72) w b ⟨id, sz, vw, true, vw, xs, cm, [], [], []⟩ f W) (hD.put (hD.rep.setLast _)) ?_
    clear hD k2 k3 k4 z4
    rintro W hD
    go_wp2_with fail
    refine (chance_c hr hD.src (by omega) (by omega) (by omega)).mono ?_
    rintro e w8 ⟨q2, rfl, hs, hT1⟩
    replace hD := hD.turnG hT1 hs
    clear hs hT1
    cases q2 with
    | true =>
      obtain ⟨A5, c5, A7, c7, A8, c8, A9, c9, k0, k1, k2, k3, k4, k5, k6, k7, k8, k9, h5, h7, h8, h9⟩ := atReplica (hD.rep).at
      clear h5 h7 h8 h9 k1 k3 k4 k5 k6 k7 k8 k9
      simp only [Nat.zero_add, Nat.add_zero] at k2
      have z0 := (hD.rep).frozen 0
      simp only [Nat.zero_add] at z0
      go_upto_region 9 with fail
      refine at_world (fun W => ∃ n, DrawSt w0 g A code.length c (M + 73) w b n f W ∧ 0 ≤ n.View ∧ 1 ≤ n.Size ∧ n.Log.length ≤ 8 ∧ n.Oks = [] ∧ n.Asks = [] ∧ n.Doers = []) ⟨_, hD.put (hD.rep.setId _), by simp, by simp; omega, hxl, rfl, rfl, rfl⟩ ?_
      clear hD k0 k2 z0
      rintro W ⟨n, hD, hv0, hv1, hv2, hv3, hv4, hv5⟩
      go_wp2_with fail
      refine (l9Primary_c n ⟨b, 0, none⟩ _ hD.rep.at hv0 hv1).mono ?_
      rintro e w9 ⟨rfl, nq, hq⟩
      replace hD := hD.quiet (W1 := w9) (by rw [hq]; exact below_drewN (Below.refl _ _) _)
      clear hq
      cases isPrim n with
      | false =>
        have hL : Loose n := ⟨hv2, by simp [hv3], by simp [hv4], by simp [hv5]⟩
        obtain ⟨A5, c5, A7, c7, A8, c8, A9, c9, f5, f7, f8, f9, hB, TT⟩ := hD.fin
        have hZ := hD.1
        have hzl := hZ.lt
        have hbz : b ≠ w.heap.size := by have := hD.2.2.2.2.1; omega
        replace TT := Lib.hid TT
        clear hD
        have k0 := hB.cell (j := 0) rfl
        have k1 := hB.cell (j := 1) rfl
        have k2 := hB.cell (j := 2) rfl
        have k3 := hB.cell (j := 3) rfl
        have k4 := hB.cell (j := 4) rfl
        have k5 := hB.cell (j := 5) rfl
        have k6 := hB.cell (j := 6) rfl
        have k7 := hB.cell (j := 7) rfl
        have k8 := hB.cell (j := 8) rfl
        have k9 := hB.cell (j := 9) rfl
        have r0 := hZ.cell (j := 0) rfl
        have y0 := hZ.frozen 0
        have r1 := hZ.cell (j := 1) rfl
        have y1 := hZ.frozen 1
        have r2 := hZ.cell (j := 2) rfl
        have y2 := hZ.frozen 2
        have r3 := hZ.cell (j := 3) rfl
        have y3 := hZ.frozen 3
        have r4 := hZ.cell (j := 4) rfl
        have y4 := hZ.frozen 4
        have r5 := hZ.cell (j := 5) rfl
        have y5 := hZ.frozen 5
        have r6 := hZ.cell (j := 6) rfl
        have y6 := hZ.frozen 6
        have r7 := hZ.cell (j := 7) rfl
        have y7 := hZ.frozen 7
        have r8 := hZ.cell (j := 8) rfl
        have y8 := hZ.frozen 8
        have r9 := hZ.cell (j := 9) rfl
        have y9 := hZ.frozen 9
        clear hB hZ hv2 hv3 hv4 hv5
        go_wp2_with fail
        refine bodyPost_ret (v := .agg #[.int .i64 n.Id, .int .i64 n.Size, .int .i64 n.View, .bool n.Normal, .int .i64 n.Last, .slice A5 n.Log.length c5, .int .i64 n.Commit, .slice A7 n.Oks.length c7, .slice A8 n.Asks.length c8, .slice A9 n.Doers.length c9]) (by simp [results, Tryz.results75, go_sem, r0, r1, r2, r3, r4, r5, r6, r7, r8, r9]) rfl ⟨n, A5, c5, A7, c7, A8, c8, A9, c9, f5, f7, f8, f9, rfl, (TT.out _ ?_).1, hL, (TT.out _ ?_).2.1.mono (by omega), (TT.out _ ?_).2.2⟩
        all_goals (repeat (first | (with_reducible exact Turn.refl _ _) | (with_reducible refine Turn.set ?_ (by simp) _)))
      | true =>
        go_wp2_with fail
        go_loopw [5] (fun jv W => ∃ (k : Nat) (n : SReplica) (fp : List Nat), jv = .int .i64 k ∧ (k : Int) ≤ sz ∧ DrawSt w0 g A code.length c (M + 80 + k) w b n fp W ∧ n.Oks.length = k ∧ n.Log.length ≤ 8 ∧ n.Asks = [] ∧ n.Doers = []) (fun jv _ => (sz - intOf jv).toNat)
        case atStart => exact ⟨0, n, _, rfl, by omega, hD.mono (by omega), by simp [hv3], hv2, hv4, hv5⟩
        case round =>
          clear hD hv0 hv1 hv2 hv3 hv4 hv5
          obtain ⟨k, n, fp, rfl, hk, hD, hv3, hv2, hv4, hv5⟩ := hrel
          by_cases hlt : (k : Int) < sz
          · subst hv3
            obtain ⟨AO, cO, fO, x7, oO, nO, sO, grow⟩ := hD.rep.growOks
            simp only [Nat.zero_add] at x7
            obtain ⟨A5, c5, A7, c7, A8, c8, A9, c9, f5, f7, f8, f9, bB0, -⟩ := hD.fin
            obtain ⟨rfl, rfl⟩ : A7 = AO ∧ c7 = cO := by
              have h := (bB0.cell (j := 7) rfl).symm.trans x7
              simp at h
              exact h
            have hwr : IntKind.i64.wrap ((n.Log.length : Int) + 1) = (n.Log.length : Int) + 1 := by rw [IntKind.wrap_i64]; omega
            have x5 := bB0.cell (j := 5) rfl
            have hbO : b ∉ fO := fun hm => hD.rep.nb (sO b hm)
            replace grow := Lib.hid grow
            go_wp2_with fail
            go_region_law (first | (refine step_appFlat (d := kInt) (zs := [(v : Int)]) (ys := n.Oks) (fp := fO) (v := .slice A7 n.Oks.length c7) (A := some ⟨w6.heap.size, 0, none⟩) (c := 1) (B := w.heap.size + 1) rfl (.tmp 55) (.tmp 62) 25 2 rfl (by kernel_rfl) (by kernel_rfl) flat_int (by simp [Act.eval, Act.put]) (by simp [Act.eval, Act.put]) OW nO (rdS_oneI w6 (v : Int)) (by simp; omega) (by rw [Deep.nblk_alloc]; omega) ?_; intro v' w' fp' hgr; obtain ⟨AA, cA, rfl, _⟩ := hgr.1.form; have yB := bB.turn hgr.2.2.1 hbO; have x7' := yB.cell (j := 7) rfl; have z7' := yB.frozen 7) | ((try go_simp); go_at_call 76; (try rw [hwr]); refine (next_c hr (SrcTo.below hD.src (by with_reducible exact (Below.refl _ _).drew)) (by omega) (by omega) (by omega)).mono ?_; rintro e w6 ⟨v, rfl, -, -, hs, hT1⟩; have hTw : Turn [g] wr w6 := ((Turn.refl [g] wr).drew).trans hT1; have hD6 := hD.turnG hTw hs; have hsz6 := hD6.rep.bs; have OW := (OwnS.turn oO hTw (fun y hy => hD.ng.2 y (sO y hy))).keep (w' := w6.alloc (.cells #[.int .i64 (v : Int)] 2)) (fun y hm => Below.heap_alloc w6 _ _ (by have := (hD6.rep.in y (sO y hm)).2; exact this)); have bB := (bB0.turn hTw hD.ng.1).below (below_alloc (Below.refl _ _) (.cells #[.int .i64 (v : Int)] 2)); have x7a := (bB0.turn hTw hD.ng.1).cell (j := 7) rfl; have x7b := bB.cell (j := 7) rfl; have x5a := (bB0.turn hTw hD.ng.1).cell (j := 5) rfl; have x5b := bB.cell (j := 5) rfl))
            all_goals
              obtain ⟨fp2, hR2, hf2⟩ := grow.out _ _ [g] [] _ _ _ _ (hTw.alloc _) hD.ng.1 hD.ng.2 (by simp) hgr
              have T6 := (((Turn.refl (b :: fp) w6).alloc (.cells #[.int .i64 (v : Int)] 2)).trans (hgr.2.2.1.mono (fun y hy => List.mem_cons_of_mem _ (sO y hy)))).set (p := ⟨b, 7, none⟩) (by simp) (.slice AA (n.Oks ++ [(v : Int)]).length cA)
              have hD7 := hD6.move T6 hR2
              clear hR2 T6 hD6 hgr yB x7' z7' bB x7a x7b x5a x5b OW
              rw [show (n.Oks ++ [(v : Int)]).length = n.Oks.length + 1 by simp] at hD7
              go_wp2_with fail
              exact ⟨⟨n.Oks.length + 1, _, fp2, by go_num, by omega, hD7.mono (by omega), by simp, hv2, hv4, hv5⟩, by simp [intOf]; omega⟩
          · have hk' : (k : Int) = sz := by omega
            have hL : Loose n := ⟨hv2, by omega, by simp [hv4], by simp [hv5]⟩
            obtain ⟨A5, c5, A7, c7, A8, c8, A9, c9, f5, f7, f8, f9, hB, TT⟩ := hD.fin
            have hZ := hD.1
            have hzl := hZ.lt
            have hbz : b ≠ w.heap.size := by have := hD.2.2.2.2.1; omega
            replace TT := Lib.hid TT
            clear hD
            have k0 := hB.cell (j := 0) rfl
            have k1 := hB.cell (j := 1) rfl
            have k2 := hB.cell (j := 2) rfl
            have k3 := hB.cell (j := 3) rfl
            have k4 := hB.cell (j := 4) rfl
            have k5 := hB.cell (j := 5) rfl
            have k6 := hB.cell (j := 6) rfl
            have k7 := hB.cell (j := 7) rfl
            have k8 := hB.cell (j := 8) rfl
            have k9 := hB.cell (j := 9) rfl
            have r0 := hZ.cell (j := 0) rfl
            have y0 := hZ.frozen 0
            have r1 := hZ.cell (j := 1) rfl
            have y1 := hZ.frozen 1
            have r2 := hZ.cell (j := 2) rfl
            have y2 := hZ.frozen 2
            have r3 := hZ.cell (j := 3) rfl
            have y3 := hZ.frozen 3
            have r4 := hZ.cell (j := 4) rfl
            have y4 := hZ.frozen 4
            have r5 := hZ.cell (j := 5) rfl
            have y5 := hZ.frozen 5
            have r6 := hZ.cell (j := 6) rfl
            have y6 := hZ.frozen 6
            have r7 := hZ.cell (j := 7) rfl
            have y7 := hZ.frozen 7
            have r8 := hZ.cell (j := 8) rfl
            have y8 := hZ.frozen 8
            have r9 := hZ.cell (j := 9) rfl
            have y9 := hZ.frozen 9
            clear hB hZ hv2 hv3 hv4 hv5
            go_wp2_with fail
            refine bodyPost_ret (v := .agg #[.int .i64 n.Id, .int .i64 n.Size, .int .i64 n.View, .bool n.Normal, .int .i64 n.Last, .slice A5 n.Log.length c5, .int .i64 n.Commit, .slice A7 n.Oks.length c7, .slice A8 n.Asks.length c8, .slice A9 n.Doers.length c9]) (by simp [results, Tryz.results75, go_sem, r0, r1, r2, r3, r4, r5, r6, r7, r8, r9]) rfl ⟨n, A5, c5, A7, c7, A8, c8, A9, c9, f5, f7, f8, f9, rfl, (TT.out _ ?_).1, hL, (TT.out _ ?_).2.1.mono (by omega), (TT.out _ ?_).2.2⟩
            all_goals (repeat (first | (with_reducible exact Turn.refl _ _) | (with_reducible refine Turn.set ?_ (by simp) _)))
    | false =>
      go_upto_region 9 with fail
      refine at_world (fun W => ∃ n, DrawSt w0 g A code.length c (M + 73) w b n f W ∧ 0 ≤ n.View ∧ 1 ≤ n.Size ∧ n.Log.length ≤ 8 ∧ n.Oks = [] ∧ n.Asks = [] ∧ n.Doers = []) ⟨_, hD, by simp, by simp; omega, hxl, rfl, rfl, rfl⟩ ?_
      clear hD
      rintro W ⟨n, hD, hv0, hv1, hv2, hv3, hv4, hv5⟩
      go_wp2_with fail
      refine (l9Primary_c n ⟨b, 0, none⟩ _ hD.rep.at hv0 hv1).mono ?_
      rintro e w9 ⟨rfl, nq, hq⟩
      replace hD := hD.quiet (W1 := w9) (by rw [hq]; exact below_drewN (Below.refl _ _) _)
      clear hq
      cases isPrim n with
      | false =>
        have hL : Loose n := ⟨hv2, by simp [hv3], by simp [hv4], by simp [hv5]⟩
        obtain ⟨A5, c5, A7, c7, A8, c8, A9, c9, f5, f7, f8, f9, hB, TT⟩ := hD.fin
        have hZ := hD.1
        have hzl := hZ.lt
        have hbz : b ≠ w.heap.size := by have := hD.2.2.2.2.1; omega
        replace TT := Lib.hid TT
        clear hD
        have k0 := hB.cell (j := 0) rfl
        have k1 := hB.cell (j := 1) rfl
        have k2 := hB.cell (j := 2) rfl
        have k3 := hB.cell (j := 3) rfl
        have k4 := hB.cell (j := 4) rfl
        have k5 := hB.cell (j := 5) rfl
        have k6 := hB.cell (j := 6) rfl
        have k7 := hB.cell (j := 7) rfl
        have k8 := hB.cell (j := 8) rfl
        have k9 := hB.cell (j := 9) rfl
        have r0 := hZ.cell (j := 0) rfl
        have y0 := hZ.frozen 0
        have r1 := hZ.cell (j := 1) rfl
        have y1 := hZ.frozen 1
        have r2 := hZ.cell (j := 2) rfl
        have y2 := hZ.frozen 2
        have r3 := hZ.cell (j := 3) rfl
        have y3 := hZ.frozen 3
        have r4 := hZ.cell (j := 4) rfl
        have y4 := hZ.frozen 4
        have r5 := hZ.cell (j := 5) rfl
        have y5 := hZ.frozen 5
        have r6 := hZ.cell (j := 6) rfl
        have y6 := hZ.frozen 6
        have r7 := hZ.cell (j := 7) rfl
        have y7 := hZ.frozen 7
        have r8 := hZ.cell (j := 8) rfl
        have y8 := hZ.frozen 8
        have r9 := hZ.cell (j := 9) rfl
        have y9 := hZ.frozen 9
        clear hB hZ hv2 hv3 hv4 hv5
        go_wp2_with fail
        refine bodyPost_ret (v := .agg #[.int .i64 n.Id, .int .i64 n.Size, .int .i64 n.View, .bool n.Normal, .int .i64 n.Last, .slice A5 n.Log.length c5, .int .i64 n.Commit, .slice A7 n.Oks.length c7, .slice A8 n.Asks.length c8, .slice A9 n.Doers.length c9]) (by simp [results, Tryz.results75, go_sem, r0, r1, r2, r3, r4, r5, r6, r7, r8, r9]) rfl ⟨n, A5, c5, A7, c7, A8, c8, A9, c9, f5, f7, f8, f9, rfl, (TT.out _ ?_).1, hL, (TT.out _ ?_).2.1.mono (by omega), (TT.out _ ?_).2.2⟩
        all_goals (repeat (first | (with_reducible exact Turn.refl _ _) | (with_reducible refine Turn.set ?_ (by simp) _)))
      | true =>
        go_wp2_with fail
        go_loopw [5] (fun jv W => ∃ (k : Nat) (n : SReplica) (fp : List Nat), jv = .int .i64 k ∧ (k : Int) ≤ sz ∧ DrawSt w0 g A code.length c (M + 80 + k) w b n fp W ∧ n.Oks.length = k ∧ n.Log.length ≤ 8 ∧ n.Asks = [] ∧ n.Doers = []) (fun jv _ => (sz - intOf jv).toNat)
        case atStart => exact ⟨0, n, _, rfl, by omega, hD.mono (by omega), by simp [hv3], hv2, hv4, hv5⟩
        case round =>
          clear hD hv0 hv1 hv2 hv3 hv4 hv5
          obtain ⟨k, n, fp, rfl, hk, hD, hv3, hv2, hv4, hv5⟩ := hrel
          by_cases hlt : (k : Int) < sz
          · subst hv3
            obtain ⟨AO, cO, fO, x7, oO, nO, sO, grow⟩ := hD.rep.growOks
            simp only [Nat.zero_add] at x7
            obtain ⟨A5, c5, A7, c7, A8, c8, A9, c9, f5, f7, f8, f9, bB0, -⟩ := hD.fin
            obtain ⟨rfl, rfl⟩ : A7 = AO ∧ c7 = cO := by
              have h := (bB0.cell (j := 7) rfl).symm.trans x7
              simp at h
              exact h
            have hwr : IntKind.i64.wrap ((n.Log.length : Int) + 1) = (n.Log.length : Int) + 1 := by rw [IntKind.wrap_i64]; omega
            have x5 := bB0.cell (j := 5) rfl
            have hbO : b ∉ fO := fun hm => hD.rep.nb (sO b hm)
            replace grow := Lib.hid grow
            go_wp2_with fail
            go_region_law (first | (refine step_appFlat (d := kInt) (zs := [(v : Int)]) (ys := n.Oks) (fp := fO) (v := .slice A7 n.Oks.length c7) (A := some ⟨w6.heap.size, 0, none⟩) (c := 1) (B := w.heap.size + 1) rfl (.tmp 55) (.tmp 62) 25 2 rfl (by kernel_rfl) (by kernel_rfl) flat_int (by simp [Act.eval, Act.put]) (by simp [Act.eval, Act.put]) OW nO (rdS_oneI w6 (v : Int)) (by simp; omega) (by rw [Deep.nblk_alloc]; omega) ?_; intro v' w' fp' hgr; obtain ⟨AA, cA, rfl, _⟩ := hgr.1.form; have yB := bB.turn hgr.2.2.1 hbO; have x7' := yB.cell (j := 7) rfl; have z7' := yB.frozen 7) | ((try go_simp); go_at_call 76; (try rw [hwr]); refine (next_c hr (SrcTo.below hD.src (by with_reducible exact (Below.refl _ _).drew)) (by omega) (by omega) (by omega)).mono ?_; rintro e w6 ⟨v, rfl, -, -, hs, hT1⟩; have hTw : Turn [g] wr w6 := ((Turn.refl [g] wr).drew).trans hT1; have hD6 := hD.turnG hTw hs; have hsz6 := hD6.rep.bs; have OW := (OwnS.turn oO hTw (fun y hy => hD.ng.2 y (sO y hy))).keep (w' := w6.alloc (.cells #[.int .i64 (v : Int)] 2)) (fun y hm => Below.heap_alloc w6 _ _ (by have := (hD6.rep.in y (sO y hm)).2; exact this)); have bB := (bB0.turn hTw hD.ng.1).below (below_alloc (Below.refl _ _) (.cells #[.int .i64 (v : Int)] 2)); have x7a := (bB0.turn hTw hD.ng.1).cell (j := 7) rfl; have x7b := bB.cell (j := 7) rfl; have x5a := (bB0.turn hTw hD.ng.1).cell (j := 5) rfl; have x5b := bB.cell (j := 5) rfl))
            all_goals
              obtain ⟨fp2, hR2, hf2⟩ := grow.out _ _ [g] [] _ _ _ _ (hTw.alloc _) hD.ng.1 hD.ng.2 (by simp) hgr
              have T6 := (((Turn.refl (b :: fp) w6).alloc (.cells #[.int .i64 (v : Int)] 2)).trans (hgr.2.2.1.mono (fun y hy => List.mem_cons_of_mem _ (sO y hy)))).set (p := ⟨b, 7, none⟩) (by simp) (.slice AA (n.Oks ++ [(v : Int)]).length cA)
              have hD7 := hD6.move T6 hR2
              clear hR2 T6 hD6 hgr yB x7' z7' bB x7a x7b x5a x5b OW
              rw [show (n.Oks ++ [(v : Int)]).length = n.Oks.length + 1 by simp] at hD7
              go_wp2_with fail
              exact ⟨⟨n.Oks.length + 1, _, fp2, by go_num, by omega, hD7.mono (by omega), by simp, hv2, hv4, hv5⟩, by simp [intOf]; omega⟩
          · have hk' : (k : Int) = sz := by omega
            have hL : Loose n := ⟨hv2, by omega, by simp [hv4], by simp [hv5]⟩
            obtain ⟨A5, c5, A7, c7, A8, c8, A9, c9, f5, f7, f8, f9, hB, TT⟩ := hD.fin
            have hZ := hD.1
            have hzl := hZ.lt
            have hbz : b ≠ w.heap.size := by have := hD.2.2.2.2.1; omega
            replace TT := Lib.hid TT
            clear hD
            have k0 := hB.cell (j := 0) rfl
            have k1 := hB.cell (j := 1) rfl
            have k2 := hB.cell (j := 2) rfl
            have k3 := hB.cell (j := 3) rfl
            have k4 := hB.cell (j := 4) rfl
            have k5 := hB.cell (j := 5) rfl
            have k6 := hB.cell (j := 6) rfl
            have k7 := hB.cell (j := 7) rfl
            have k8 := hB.cell (j := 8) rfl
            have k9 := hB.cell (j := 9) rfl
            have r0 := hZ.cell (j := 0) rfl
            have y0 := hZ.frozen 0
            have r1 := hZ.cell (j := 1) rfl
            have y1 := hZ.frozen 1
            have r2 := hZ.cell (j := 2) rfl
            have y2 := hZ.frozen 2
            have r3 := hZ.cell (j := 3) rfl
            have y3 := hZ.frozen 3
            have r4 := hZ.cell (j := 4) rfl
            have y4 := hZ.frozen 4
            have r5 := hZ.cell (j := 5) rfl
            have y5 := hZ.frozen 5
            have r6 := hZ.cell (j := 6) rfl
            have y6 := hZ.frozen 6
            have r7 := hZ.cell (j := 7) rfl
            have y7 := hZ.frozen 7
            have r8 := hZ.cell (j := 8) rfl
            have y8 := hZ.frozen 8
            have r9 := hZ.cell (j := 9) rfl
            have y9 := hZ.frozen 9
            clear hB hZ hv2 hv3 hv4 hv5
            go_wp2_with fail
            refine bodyPost_ret (v := .agg #[.int .i64 n.Id, .int .i64 n.Size, .int .i64 n.View, .bool n.Normal, .int .i64 n.Last, .slice A5 n.Log.length c5, .int .i64 n.Commit, .slice A7 n.Oks.length c7, .slice A8 n.Asks.length c8, .slice A9 n.Doers.length c9]) (by simp [results, Tryz.results75, go_sem, r0, r1, r2, r3, r4, r5, r6, r7, r8, r9]) rfl ⟨n, A5, c5, A7, c7, A8, c8, A9, c9, f5, f7, f8, f9, rfl, (TT.out _ ?_).1, hL, (TT.out _ ?_).2.1.mono (by omega), (TT.out _ ?_).2.2⟩
            all_goals (repeat (first | (with_reducible exact Turn.refl _ _) | (with_reducible refine Turn.set ?_ (by simp) _)))
  | true =>
    obtain ⟨A5, c5, A7, c7, A8, c8, A9, c9, k0, k1, k2, k3, k4, k5, k6, k7, k8, k9, h5, h7, h8, h9⟩ := atReplica (hD.rep).at
    clear h5 h7 h8 h9 k0 k1 k2 k4 k5 k6 k7 k8 k9
    simp only [Nat.zero_add, Nat.add_zero] at k3
    simp only [Bool.not_true] at k3
    obtain ⟨n, hE, hv2, hv3, hv4, hv5⟩ : ∃ n, DrawSt w0 g A code.length c (M + 72) w b n f W ∧ n.Log.length ≤ 8 ∧ n.Oks = [] ∧ n.Asks = [] ∧ n.Doers = [] := ⟨_, hD, hxl, rfl, rfl, rfl⟩
    replace hD := hE
    clear hE
    go_wp2_with fail
    go_loopw [6] (fun jv W => ∃ (k : Nat) (n : SReplica) (fp : List Nat), jv = .int .i64 k ∧ (k : Int) ≤ sz ∧ DrawSt w0 g A code.length c (M + 80 + 100 * k) w b n fp W ∧ n.Asks.length = k ∧ n.Doers.length = k ∧ n.Log.length ≤ 8 ∧ n.Oks = []) (fun jv _ => (sz - intOf jv).toNat)
    case atStart => exact ⟨0, n, _, rfl, by omega, hD.mono (by omega), by simp [hv4], by simp [hv5], hv2, hv3⟩
    case round =>
      clear hD hv2 hv3 hv4 hv5
      obtain ⟨k, n, fp, rfl, hk, hD, hv4, hv5, hv2, hv3⟩ := hrel
      by_cases hlt : (k : Int) < sz
      · subst hv4
        have hvD := Lib.hid hv5
        have hvO := Lib.hid hv3
        clear hv5 hv3
        obtain ⟨AO, cO, fO, x8, oO, nO, sO, grow⟩ := hD.rep.growAsks
        simp only [Nat.zero_add] at x8
        obtain ⟨A5, c5, A7, c7, A8, c8, A9, c9, f5, f7, f8, f9, bB0, -⟩ := hD.fin
        obtain ⟨rfl, rfl⟩ : A8 = AO ∧ c8 = cO := by
          have h := (bB0.cell (j := 8) rfl).symm.trans x8
          simp at h
          exact h
        have hbO : b ∉ fO := fun hm => hD.rep.nb (sO b hm)
        replace grow := Lib.hid grow
        go_wp2_with fail
        go_region_law (first | (refine step_appFlat (d := kBool) (zs := [v]) (ys := n.Asks) (fp := fO) (v := .slice A8 n.Asks.length c8) (A := some ⟨w6.heap.size, 0, none⟩) (c := 1) (B := w.heap.size + 1) rfl (.tmp 71) (.tmp 74) 26 4 rfl (by kernel_rfl) (by kernel_rfl) flat_bool (by simp [Act.eval, Act.put]) (by simp [Act.eval, Act.put]) OW nO (rdS_oneB w6 v) (by simp; omega) (by rw [Deep.nblk_alloc]; omega) ?_; intro v' w' fp' hgr; obtain ⟨AA, cA, rfl, _⟩ := hgr.1.form; have yB := bB.turn hgr.2.2.1 hbO; have x7' := yB.cell (j := 8) rfl; have z7' := yB.frozen 8) | ((try go_simp); go_at_call 126; refine (chance_c hr (SrcTo.below hD.src (by with_reducible exact (Below.refl _ _).drew)) (by omega) (by omega) (by omega)).mono ?_; rintro e w6 ⟨v, rfl, hs, hT1⟩; have hTw : Turn [g] wr w6 := ((Turn.refl [g] wr).drew).trans hT1; have hD6 := hD.turnG hTw hs; have hsz6 := hD6.rep.bs; have OW := (OwnS.turn oO hTw (fun y hy => hD.ng.2 y (sO y hy))).keep (w' := w6.alloc (.cells #[.bool v] 4)) (fun y hm => Below.heap_alloc w6 _ _ (by have := (hD6.rep.in y (sO y hm)).2; exact this)); have bB := (bB0.turn hTw hD.ng.1).below (below_alloc (Below.refl _ _) (.cells #[.bool v] 4)); have x7a := (bB0.turn hTw hD.ng.1).cell (j := 8) rfl; have x7b := bB.cell (j := 8) rfl))
        all_goals
          obtain ⟨fp2, hR2, hf2⟩ := grow.out _ _ [g] [] _ _ _ _ (hTw.alloc _) hD.ng.1 hD.ng.2 (by simp) hgr
          have T6 := (((Turn.refl (b :: fp) w6).alloc (.cells #[.bool v] 4)).trans (hgr.2.2.1.mono (fun y hy => List.mem_cons_of_mem _ (sO y hy)))).set (p := ⟨b, 8, none⟩) (by simp) (.slice AA (n.Asks ++ [v]).length cA)
          have hD7 := hD6.move T6 hR2
          rw [show (n.Asks ++ [v]).length = n.Asks.length + 1 by simp] at hD7
          clear hR2 T6 hD6 hgr yB x7' z7' bB x7a x7b OW grow hD bB0 x8 oO nO sO hf2 hT1 hTw hs hbO hsz6
          go_upto_region 18 with fail
          obtain ⟨n2, hE, q1, q2, q3, q4⟩ : ∃ n2, DrawSt w0 g A code.length c (M + 80 + 100 * n.Asks.length + 1) w b n2 fp2 _ ∧ n2.Asks.length = n.Asks.length + 1 ∧ n2.Doers.length = n.Asks.length ∧ n2.Log.length ≤ 8 ∧ n2.Oks = [] := ⟨_, hD7, by simp, hvD.out, hv2, hvO.out⟩
          replace q2 := Lib.hid q2
          replace q1 := Lib.hid q1
          replace q4 := Lib.hid q4
          refine at_world (fun W => DrawSt w0 g A code.length c (M + 80 + 100 * n.Asks.length + 1) w b n2 fp2 W) hE ?_
          clear hE hD7
          rintro W17 hE
          go_wp2_with fail
          refine (chance_c hr hE.src (by omega) (by omega) (by omega)).mono ?_
          rintro e wa ⟨q3b, rfl, hs, hT1⟩
          replace hE := hE.turnG hT1 hs
          clear hs hT1
          go_upto_region 19 with fail
          obtain ⟨zd, hzd⟩ : ∃ zd, zd = wa.heap.size := ⟨_, rfl⟩
          refine at_world (fun W => DoerSt w0 g A code.length c (M + 82 + 100 * n.Asks.length) w b n2 fp2 zd ⟨q3b, 0, [], 0⟩ [] W W) ⟨(hE.quiet (below_alloc (Below.refl _ _) _)).mono (by omega), ⟨none, 0, by subst hzd; exact blk_alloc wa [.bool q3b, .int .i64 0, .slice none 0 0, .int .i64 0] _, ownS_nil _ _ _⟩, by simp, by simp, Turn.refl _ _, by have := hE.rep.bs; omega, by rw [Deep.nblk_alloc]; omega, by have := hE.rep.lt; omega, fun y hy => by have := (hE.rep.in y hy).2; omega, by have := hE.rep.bs; rw [Deep.nblk_alloc]; omega⟩ ?_
          rw [← hzd]
          clear hE hzd
          rintro W18 hX
          obtain ⟨AO, cO, fO, x9, oO, nO, sO, grow⟩ := hX.1.rep.growDoers
          replace grow := Lib.hid grow
          have ng := hX.1.ng
          have lt18 := hX.1.rep.in
          have nb18 := hX.1.rep.nb
          have bs18 := hX.1.rep.bs
          simp only [Nat.zero_add] at x9
          obtain ⟨A5, c5, A7, c7, A8, c8, A9, c9, f5, f7, f8, f9, bB0, -⟩ := hX.1.fin
          obtain ⟨rfl, rfl⟩ : A9 = AO ∧ c9 = cO := by
            have h := (bB0.cell (j := 9) rfl).symm.trans x9
            simp at h
            exact h
          clear x9
          cases q3b with
          | false =>
            obtain ⟨D2, e2, dB, -⟩ := hX.2.1
            have u0 := dB.cell (j := 0) rfl
            go_upto_region 23 with fail
            obtain ⟨d, fl, hX⟩ : ∃ d fl, DoerSt w0 g A code.length c (M + 82 + 100 * n.Asks.length) w b n2 fp2 zd d fl W18 W18 := ⟨_, _, hX⟩
            clear dB u0
            have hXm : DoerSt w0 g A code.length c (M + 180 + 100 * n.Asks.length) w b n2 fp2 zd d fl W18 W18 := ⟨hX.1.mono (by omega), hX.2⟩
            clear hX
            obtain ⟨W22, hW22⟩ : ∃ W22, W22 = W18 := ⟨_, rfl⟩
            rw [← hW22]
            have hX : DoerSt w0 g A code.length c (M + 180 + 100 * n.Asks.length) w b n2 fp2 zd d fl W18 W22 := by rw [hW22]; exact hXm
            clear hXm hW22
            obtain ⟨hD, ⟨D2, e2, dB, ol⟩, nl, hl, hT, h1, h2, h3, h4, h5⟩ := hX
            have s22 := hT.size
            have hTa := hT.alloc (.cells #[.bool d.Known, .int .i64 d.Last, .slice D2 d.Log.length e2, .int .i64 d.Commit] 70)
            have hbz : b ∉ [g, zd] := fun hm => by have a1 := ng.1; simp at hm a1; omega
            have hfz : ∀ y ∈ fp2, y ∉ [g, zd] := fun y hy hm => by have a1 := ng.2 y hy; have a2 := h4 y hy; simp at hm a1; omega
            have hbO : b ∉ fO := fun hm => nb18 (sO b hm)
            have oW := Lib.hid (oO.turn hTa (fun y hy => hfz y (sO y hy)))
            have oL : kDoer.Own (w.heap.size + 1) (W22.alloc (.cells #[.bool d.Known, .int .i64 d.Last, .slice D2 d.Log.length e2, .int .i64 d.Commit] 70)) fl [.bool d.Known, .int .i64 d.Last, .slice D2 d.Log.length e2, .int .i64 d.Commit] d := kDoer_ownmk d (h2 := OwnS.keep ol (fun y hm => Below.heap_alloc W22 _ _ (ol.in y hm).2))
            have bB := bB0.turn hT hbz
            have x9 := bB.cell (j := 9) rfl
            have bBa := bB0.turn hTa hbz
            have u0 := dB.cell (j := 0) rfl
            have u1 := dB.cell (j := 1) rfl
            have u2 := dB.cell (j := 2) rfl
            have u3 := dB.cell (j := 3) rfl
            have hl6 := lies_alloc W22 #[.bool d.Known, .int .i64 d.Last, .slice D2 d.Log.length e2, .int .i64 d.Commit] 70
            have hdl : n2.Doers.length ≤ 5 := by have := q2.out; omega
            go_wp2_with (refine wpList_app (d := kDoer) (zs := [d]) (ys := n2.Doers) (fp := fO) (fs := fl) (B := w.heap.size + 1) rfl _ _ 27 70 rfl (by kernel_rfl) (by kernel_rfl) rfl rfl oW.out nO (Src.ofSlice (P := Tryz.prog) (e' := 70) _ (by kernel_rfl) ⟨W22.heap.size, 0, none⟩ 1 1 _ rfl hl6 (kDoer.rd_one (kDoer.own_rd oL))) (OwnL.single oL) nl (fun y hy hm => by have a1 := (lt18 y (sO y hy)).2; have a2 := hl y hm; omega) (by simp; omega) (by rw [Deep.nblk_alloc]; omega) ?_; intro v' w' fp' hgr; obtain ⟨AA, cA, rfl, _⟩ := hgr.1.form; have yB := bBa.turn hgr.2.2.1 hbO; have x9' := yB.cell (j := 9) rfl; have z9' := yB.frozen 9)
            obtain ⟨fp3, hR3, hf3⟩ := grow.out _ _ [g, zd] fl _ _ _ _ hTa hbz hfz hl hgr
            have T6 := (((Turn.refl (b :: fp2) W22).alloc (.cells #[.bool d.Known, .int .i64 d.Last, .slice D2 d.Log.length e2, .int .i64 d.Commit] 70)).trans (hgr.2.2.1.mono (fun y hy => List.mem_cons_of_mem _ (sO y hy)))).set (p := ⟨b, 9, none⟩) (by simp) (.slice AA (n2.Doers ++ [d]).length cA)
            have hD8 := hD.move T6 hR3
            rw [show (n2.Doers ++ [d]).length = n2.Doers.length + 1 by simp] at hD8
            refine ⟨⟨n.Asks.length + 1, by omega, by omega, _, ⟨fp3, hD8.mono (by omega)⟩, q1.out, by simp [q2.out], q3, q4.out⟩, ?_⟩
            simp [intOf]
            omega
          | true =>
            obtain ⟨D2, e2, dB, -⟩ := hX.2.1
            have u0 := dB.cell (j := 0) rfl
            have v0 := dB.frozen 0
            clear dB
            go_wp2_with fail
            refine (next_c hr hX.1.src (by omega) (by omega) (by omega)).mono ?_
            rintro e wb ⟨y1, rfl, -, -, hs, hT1⟩
            replace hX := hX.turnG hT1 hs
            clear hs hT1 u0 v0
            obtain ⟨D2, e2, dB, -⟩ := hX.2.1
            have u1 := dB.cell (j := 1) rfl
            have v1 := dB.frozen 1
            clear dB
            go_upto_region 21 with fail
            refine at_world (fun W => DoerSt w0 g A code.length c (M + 82 + 100 * n.Asks.length + 1) w b n2 fp2 zd ⟨true, y1, [], 0⟩ [] W18 W) (hX.setLast _) ?_
            clear hX
            clear u1 v1
            rintro W20 hX
            go_wp2_with fail
            refine (l8Log_c hr hX.1.src (by omega)).mono ?_
            rintro e wc ⟨ys, G2, y2, fl, rfl, hyl, ol, nl, hs, hT1⟩
            have ol2 := ol.lift (B' := W18.heap.size) (fun y hy => by have := (ol.in y hy).1; have := hX.2.2.2.2.1.size; omega)
            replace hX := hX.turnG hT1 hs
            clear hs hT1 ol
            obtain ⟨D2, e2, dB, -⟩ := hX.2.1
            have u2 := dB.cell (j := 2) rfl
            have v2 := dB.frozen 2
            clear dB
            go_upto_region 22 with fail
            refine at_world (fun W => DoerSt w0 g A code.length c (M + 82 + 100 * n.Asks.length + 1 + 60) w b n2 fp2 zd ⟨true, y1, ys, 0⟩ fl W18 W) (hX.setLog ol2 nl) ?_
            clear hX ol2 nl
            clear u2 v2
            rintro W21 hX
            obtain ⟨D2, e2, dB, -⟩ := hX.2.1
            have u2 := dB.cell (j := 2) rfl
            have v2 := dB.frozen 2
            clear dB
            go_wp2_with fail
            refine (next_c hr hX.1.src (by omega) (by omega) (by omega)).mono ?_
            rintro e wd ⟨y3, rfl, -, -, hs, hT1⟩
            replace hX := hX.turnG hT1 hs
            clear hs hT1 u2 v2
            obtain ⟨D2, e2, dB, -⟩ := hX.2.1
            have u3 := dB.cell (j := 3) rfl
            have v3 := dB.frozen 3
            clear dB
            go_upto_region 23 with fail
            refine at_world (fun W => ∃ d fl, DoerSt w0 g A code.length c (M + 180 + 100 * n.Asks.length) w b n2 fp2 zd d fl W18 W) ⟨_, _, (hX.setCommit _).1.mono (by omega), (hX.setCommit _).2⟩ ?_
            clear hX hyl
            clear u3 v3
            rintro W22 ⟨d, fl, hX⟩
            obtain ⟨hD, ⟨D2, e2, dB, ol⟩, nl, hl, hT, h1, h2, h3, h4, h5⟩ := hX
            have s22 := hT.size
            have hTa := hT.alloc (.cells #[.bool d.Known, .int .i64 d.Last, .slice D2 d.Log.length e2, .int .i64 d.Commit] 70)
            have hbz : b ∉ [g, zd] := fun hm => by have a1 := ng.1; simp at hm a1; omega
            have hfz : ∀ y ∈ fp2, y ∉ [g, zd] := fun y hy hm => by have a1 := ng.2 y hy; have a2 := h4 y hy; simp at hm a1; omega
            have hbO : b ∉ fO := fun hm => nb18 (sO b hm)
            have oW := Lib.hid (oO.turn hTa (fun y hy => hfz y (sO y hy)))
            have oL : kDoer.Own (w.heap.size + 1) (W22.alloc (.cells #[.bool d.Known, .int .i64 d.Last, .slice D2 d.Log.length e2, .int .i64 d.Commit] 70)) fl [.bool d.Known, .int .i64 d.Last, .slice D2 d.Log.length e2, .int .i64 d.Commit] d := kDoer_ownmk d (h2 := OwnS.keep ol (fun y hm => Below.heap_alloc W22 _ _ (ol.in y hm).2))
            have bB := bB0.turn hT hbz
            have x9 := bB.cell (j := 9) rfl
            have bBa := bB0.turn hTa hbz
            have u0 := dB.cell (j := 0) rfl
            have u1 := dB.cell (j := 1) rfl
            have u2 := dB.cell (j := 2) rfl
            have u3 := dB.cell (j := 3) rfl
            have hl6 := lies_alloc W22 #[.bool d.Known, .int .i64 d.Last, .slice D2 d.Log.length e2, .int .i64 d.Commit] 70
            have hdl : n2.Doers.length ≤ 5 := by have := q2.out; omega
            go_wp2_with (refine wpList_app (d := kDoer) (zs := [d]) (ys := n2.Doers) (fp := fO) (fs := fl) (B := w.heap.size + 1) rfl _ _ 27 70 rfl (by kernel_rfl) (by kernel_rfl) rfl rfl oW.out nO (Src.ofSlice (P := Tryz.prog) (e' := 70) _ (by kernel_rfl) ⟨W22.heap.size, 0, none⟩ 1 1 _ rfl hl6 (kDoer.rd_one (kDoer.own_rd oL))) (OwnL.single oL) nl (fun y hy hm => by have a1 := (lt18 y (sO y hy)).2; have a2 := hl y hm; omega) (by simp; omega) (by rw [Deep.nblk_alloc]; omega) ?_; intro v' w' fp' hgr; obtain ⟨AA, cA, rfl, _⟩ := hgr.1.form; have yB := bBa.turn hgr.2.2.1 hbO; have x9' := yB.cell (j := 9) rfl; have z9' := yB.frozen 9)
            obtain ⟨fp3, hR3, hf3⟩ := grow.out _ _ [g, zd] fl _ _ _ _ hTa hbz hfz hl hgr
            have T6 := (((Turn.refl (b :: fp2) W22).alloc (.cells #[.bool d.Known, .int .i64 d.Last, .slice D2 d.Log.length e2, .int .i64 d.Commit] 70)).trans (hgr.2.2.1.mono (fun y hy => List.mem_cons_of_mem _ (sO y hy)))).set (p := ⟨b, 9, none⟩) (by simp) (.slice AA (n2.Doers ++ [d]).length cA)
            have hD8 := hD.move T6 hR3
            rw [show (n2.Doers ++ [d]).length = n2.Doers.length + 1 by simp] at hD8
            refine ⟨⟨n.Asks.length + 1, by omega, by omega, _, ⟨fp3, hD8.mono (by omega)⟩, q1.out, by simp [q2.out], q3, q4.out⟩, ?_⟩
            simp [intOf]
            omega
      · have hk' : (k : Int) = sz := by omega
        have hL : Loose n := ⟨hv2, by simp [hv3], by omega, by omega⟩
        obtain ⟨A5, c5, A7, c7, A8, c8, A9, c9, f5, f7, f8, f9, hB, TT⟩ := hD.fin
        have hZ := hD.1
        have hzl := hZ.lt
        have hbz : b ≠ w.heap.size := by have := hD.2.2.2.2.1; omega
        replace TT := Lib.hid TT
        clear hD
        have k0 := hB.cell (j := 0) rfl
        have k1 := hB.cell (j := 1) rfl
        have k2 := hB.cell (j := 2) rfl
        have k3 := hB.cell (j := 3) rfl
        have k4 := hB.cell (j := 4) rfl
        have k5 := hB.cell (j := 5) rfl
        have k6 := hB.cell (j := 6) rfl
        have k7 := hB.cell (j := 7) rfl
        have k8 := hB.cell (j := 8) rfl
        have k9 := hB.cell (j := 9) rfl
        have r0 := hZ.cell (j := 0) rfl
        have y0 := hZ.frozen 0
        have r1 := hZ.cell (j := 1) rfl
        have y1 := hZ.frozen 1
        have r2 := hZ.cell (j := 2) rfl
        have y2 := hZ.frozen 2
        have r3 := hZ.cell (j := 3) rfl
        have y3 := hZ.frozen 3
        have r4 := hZ.cell (j := 4) rfl
        have y4 := hZ.frozen 4
        have r5 := hZ.cell (j := 5) rfl
        have y5 := hZ.frozen 5
        have r6 := hZ.cell (j := 6) rfl
        have y6 := hZ.frozen 6
        have r7 := hZ.cell (j := 7) rfl
        have y7 := hZ.frozen 7
        have r8 := hZ.cell (j := 8) rfl
        have y8 := hZ.frozen 8
        have r9 := hZ.cell (j := 9) rfl
        have y9 := hZ.frozen 9
        clear hB hZ hv2 hv3 hv4 hv5
        go_wp2_with fail
        refine bodyPost_ret (v := .agg #[.int .i64 n.Id, .int .i64 n.Size, .int .i64 n.View, .bool n.Normal, .int .i64 n.Last, .slice A5 n.Log.length c5, .int .i64 n.Commit, .slice A7 n.Oks.length c7, .slice A8 n.Asks.length c8, .slice A9 n.Doers.length c9]) (by simp [results, Tryz.results75, go_sem, r0, r1, r2, r3, r4, r5, r6, r7, r8, r9]) rfl ⟨n, A5, c5, A7, c7, A8, c8, A9, c9, f5, f7, f8, f9, rfl, (TT.out _ ?_).1, hL, (TT.out _ ?_).2.1.mono (by omega), (TT.out _ ?_).2.2⟩
        all_goals (repeat (first | (with_reducible exact Turn.refl _ _) | (with_reducible refine Turn.set ?_ (by simp) _)))
end Go.Proofs.YtdjfehjddfbbjaaGreat
