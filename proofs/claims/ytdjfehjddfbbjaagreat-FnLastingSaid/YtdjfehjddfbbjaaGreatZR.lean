/- The reference's l9Agreed, l9Led, l9Enough (own work). -/
import Derived.Test.YtdjfehjddfbbjaaGreatZN
import Derived.Test.YtdjfehjddfbbjaaGreatZL
import Derived.Test.YtdjfehjddfbbjaaGreatZP
set_option linter.unusedVariables false
set_option linter.unusedSimpArgs false
namespace Go.Proofs.YtdjfehjddfbbjaaGreat
open Go Go.RowKit Mk
theorem l9Enough_c (s : Int) (w : World) (h : 0 ≤ s) (h2 : s ≤ 1000) : Calls Tryz.prog 97 #[.int .i64 s] w fun e w' => e = .returned (.int .i64 (s / 2 + 1)) ∧ w = w' := by
  go_enter Tryz.func97, Tryz.ntmps97
  go_wp2
  go_ret; exact ⟨rfl, rfl⟩
set_option maxRecDepth 100000 in
set_option maxHeartbeats 2000000 in
theorem l9Agreed_c (i s : Nat) (oks : List Int) (logs : List SEntry) (A5 : Option Addr) (c5 : Nat) (A7 : Option Addr) (c7 : Nat) (p : Addr) (w : World) (h0 : w.cell? p = some (.int .i64 i)) (h1 : w.cell? ⟨p.block, p.off + 1, none⟩ = some (.int .i64 s))
    (h5 : w.cell? ⟨p.block, p.off + 5, none⟩ = some (.slice A5 logs.length c5)) (h7 : w.cell? ⟨p.block, p.off + 7, none⟩ = some (.slice A7 oks.length c7)) (r7 : RdS kInt w A7 c7 oks) (hl : oks.length = s) (hi : i < s) (hs : s ≤ 5) (hll : logs.length ≤ 1000) :
    Calls Tryz.prog 55 #[.pointer (some p)] w fun r w' => r = .returned (.int .i64 (agreedN oks i logs.length)) ∧ w = w' := by
  have HS := Lib.hid hl
  clear hl
  generalize hA : agreedN oks i logs.length = z
  have HA := Lib.hid hA
  clear hA
  go_enter Tryz.func55, Tryz.ntmps55
  go_wp2_with fail
  go_loop [3] (fun t => ∃ k : Nat, k ≤ logs.length ∧ t = .int .i64 k ∧ z = downTo (fun k => decide (oks.length / 2 + 1 ≤ haveN oks i k oks.length)) k) (fun t => (intOf t).toNat)
  case atStart => exact ⟨logs.length, Nat.le_refl _, rfl, HA.out.symm⟩
  case round =>
    obtain ⟨k, hk, rfl, hz⟩ := hrel
    have HZ := Lib.hid hz
    clear hz
    by_cases hk0 : 0 < k
    · have hk0' : (0 : Int) < (k : Int) := by omega
      go_wp2_with fail
      go_loop [4, 5] (fun hv jv => ∃ j : Nat, j ≤ s ∧ jv = .int .i64 j ∧ hv = .int .i64 (haveN oks i k j : Nat)) (fun _ jv => s - (intOf jv).toNat)
      case atStart => exact ⟨0, Nat.zero_le _, rfl, by rw [haveN_zero]; rfl⟩
      case round =>
        obtain ⟨j, hj, rfl, rfl⟩ := hrel
        have hle := haveN_le oks i k j
        by_cases hlt : j < s
        · have hlt' : (j : Int) < (s : Int) := by omega
          have hsu := Lib.hid (haveN_succ oks i k j)
          generalize haveN oks i k j = hv at hle hsu
          by_cases hji : j = i
          · subst hji
            have he : ((j : Int) != (j : Int)) = false := by simp
            rw [show (j != j) = false by simp, Bool.false_and] at hsu
            go_wp2_with fail
            go_round
            case rel => exact ⟨j + 1, hlt, by go_num, by rw [hsu.out]; rfl⟩
            case measure => simp [intOf]; omega
          · have he : ((j : Int) != (i : Int)) = true := by simp; omega
            have hjl : j < oks.length := by rw [HS.out]; exact hlt
            have hjl' : (j : Int) < (oks.length : Int) := by omega
            obtain ⟨a, ea, hx⟩ := r7.at_ hjl
            subst ea
            simp only [show kInt.sz = 1 from rfl, Nat.mul_one] at hx
            obtain ⟨cs, hla, hcs⟩ := hx
            obtain rfl := hcs
            have q0 := hla.c0
            have hg : oks.getD j 0 = oks[j] := by simp [List.getElem?_eq_getElem hjl]
            rw [hg, show (j != i) = true by simp [hji], Bool.true_and] at hsu
            generalize oks[j] = y at q0 hsu
            clear hla hg
            by_cases hy : (k : Int) ≤ y
            · have hd : decide ((k : Int) ≤ y) = true := decide_eq_true hy
              rw [hd] at hsu
              go_wp2_with fail
              go_round
              case rel => exact ⟨j + 1, hlt, by go_num, by rw [hsu.out]; go_num⟩
              case measure => simp [intOf]; omega
            · have hd : decide ((k : Int) ≤ y) = false := decide_eq_false hy
              rw [hd] at hsu
              go_wp2_with fail
              go_round
              case rel => exact ⟨j + 1, hlt, by go_num, by rw [hsu.out]; rfl⟩
              case measure => simp [intOf]; omega
        · have hj' : j = s := by omega
          subst hj'
          have hok : decide (oks.length / 2 + 1 ≤ haveN oks i k oks.length) = decide (j / 2 + 1 ≤ haveN oks i k j) := by rw [HS.out]
          obtain ⟨k', rfl⟩ : ∃ k', k = k' + 1 := ⟨k - 1, by omega⟩
          have hz2 := HZ.out
          rw [downTo, hok] at hz2
          generalize haveN oks i ((k' + 1 : Nat) : Int) j = hv at hle hz2
          clear hok
          by_cases hE : j / 2 + 1 ≤ hv
          · rw [decide_eq_true hE, if_pos rfl] at hz2
            have HZ2 := Lib.hid hz2
            have hE' : decide ((j : Int) / 2 + 1 ≤ (hv : Int)) = true := decide_eq_true (by omega)
            clear hz2 hE
            go_wp2_with ((go_at_call 97; (with_reducible refine (l9Enough_c _ _ (by omega) (by omega)).mono ?_); rintro e w' ⟨rfl, rfl⟩))
            go_ret
            exact ⟨by rw [HZ2.out]; first | rfl | (simp; done) | go_num, rfl⟩
          · rw [decide_eq_false hE, if_neg (by simp)] at hz2
            have HZ2 := Lib.hid hz2
            have hE' : decide ((j : Int) / 2 + 1 ≤ (hv : Int)) = false := decide_eq_false (by omega)
            clear hz2 hE
            go_wp2_with ((go_at_call 97; (with_reducible refine (l9Enough_c _ _ (by omega) (by omega)).mono ?_); rintro e w' ⟨rfl, rfl⟩))
            go_round
            case rel => exact ⟨k', by omega, by go_num, HZ2.out⟩
            case measure => simp [intOf]
    · have hk' : k = 0 := by omega
      subst hk'
      go_wp2_with fail
      go_ret
      exact ⟨by rw [HZ.out]; rfl, rfl⟩
end Go.Proofs.YtdjfehjddfbbjaaGreat

/- The reference's l9Led and AskReplica (written by gN6.py, own work). -/
set_option linter.unusedVariables false
set_option linter.unusedSimpArgs false
namespace Go.Proofs.YtdjfehjddfbbjaaGreat
open Go Go.RowKit Mk
set_option maxRecDepth 100000 in
set_option maxHeartbeats 4000000 in
theorem l9Led_bad (n : SReplica) (p : Addr) (w : World) (h : At kReplica w p n) (q : (repF n != 0) = true) :
    Calls Tryz.prog 203 #[.pointer (some p)] w fun e w' => e = .returned (.int .i64 (repF n)) ∧ Below w.heap.size w w' := by
  have HF := Lib.hid (l9Fault_c n p w h)
  clear h
  go_enter Tryz.func203, Tryz.ntmps203
  go_wp2_with fail
  refine HF.out.mono ?_
  rintro e w1 ⟨rfl, hb1⟩
  go_wp2_with fail
  go_ret
  exact ⟨rfl, hb1⟩
set_option maxRecDepth 100000 in
set_option maxHeartbeats 4000000 in
theorem l9Led_idle (n : SReplica) (p : Addr) (w : World) (h : At kReplica w p n) (q : (repF n != 0) = false) (q1 : leadsB n = false) :
    Calls Tryz.prog 203 #[.pointer (some p)] w fun e w' => e = .returned (.int .i64 10) ∧ Below w.heap.size w w' := by
  have HF := Lib.hid (l9Fault_c n p w h)
  obtain ⟨e1, e2, e3, l1, l2, l3, l4, l5, l6, l7, l8⟩ := repF_nums q
  have HP := Lib.hid (fun (W : World) (hb : Below w.heap.size w W) => l9Primary_c n p W (h.below hb) (by omega) (by omega))
  clear e1 e2 e3 l1 l2 l3 l4 l5 l6 l7 l8
  go_enter Tryz.func203, Tryz.ntmps203
  go_wp2_with fail
  refine HF.out.mono ?_
  rintro e w1 ⟨rfl, hb1⟩
  obtain ⟨A5, c5, A7, c7, A8, c8, A9, c9, f0, f1, f2, f3, f4, f5, f6, f7, f8, f9, hh⟩ := atReplica (h.below hb1)
  clear f0 f1 f2 f4 f5 f6 f7 f8 f9 hh h
  have hp := HP.out w1 hb1
  cases hN : n.Normal with
  | false =>
    rw [hN] at f3
    clear q1 hN hp
    go_wp2_with fail
    go_ret
    exact ⟨rfl, hb1⟩
  | true =>
    unfold leadsB at q1
    rw [hN, Bool.true_and] at q1
    rw [q1] at hp
    rw [hN] at f3
    clear q1 hN
    go_wp2_with fail
    refine hp.mono ?_
    rintro e w2 ⟨rfl, m, rfl⟩
    go_wp2_with fail
    go_ret
    exact ⟨rfl, below_trans hb1 (below_drewN (Below.refl _ _) _)⟩
set_option maxRecDepth 100000 in
set_option maxHeartbeats 4000000 in
theorem l9Led_fine (n : SReplica) (p : Addr) (w : World) (h : At kReplica w p n) (q : (repF n != 0) = false) (q1 : leadsB n = true) :
    Calls Tryz.prog 203 #[.pointer (some p)] w fun e w' => e = .returned (.int .i64 0) ∧ Below w.heap.size w w' := by
  have HF := Lib.hid (l9Fault_c n p w h)
  obtain ⟨e1, e2, e3, l1, l2, l3, l4, l5, l6, l7, l8⟩ := repF_nums q
  have HP := Lib.hid (fun (W : World) (hb : Below w.heap.size w W) => l9Primary_c n p W (h.below hb) (by omega) (by omega))
  clear e1 e2 e3 l1 l2 l3 l4 l5 l6 l7 l8
  go_enter Tryz.func203, Tryz.ntmps203
  go_wp2_with fail
  refine HF.out.mono ?_
  rintro e w1 ⟨rfl, hb1⟩
  obtain ⟨A5, c5, A7, c7, A8, c8, A9, c9, f0, f1, f2, f3, f4, f5, f6, f7, f8, f9, hh⟩ := atReplica (h.below hb1)
  clear f0 f1 f2 f4 f5 f6 f7 f8 f9 hh h
  have hp := HP.out w1 hb1
  unfold leadsB at q1
  rw [Bool.and_eq_true] at q1
  rw [q1.1] at f3
  rw [q1.2] at hp
  clear q1
  go_wp2_with fail
  refine hp.mono ?_
  rintro e w2 ⟨rfl, m, rfl⟩
  go_wp2_with fail
  go_ret
  exact ⟨rfl, below_trans hb1 (below_drewN (Below.refl _ _) _)⟩
set_option maxRecDepth 100000 in
set_option maxHeartbeats 4000000 in
theorem sAsk_bad (n : SReplica) (x : SEntry) (A5 : Option Addr) (c5 : Nat) (A7 : Option Addr) (c7 : Nat) (A8 : Option Addr) (c8 : Nat) (A9 : Option Addr) (c9 : Nat) (w : World) (h5 : RdS kEntry w A5 c5 n.Log) (h7 : RdS kInt w A7 c7 n.Oks) (h8 : RdS kBool w A8 c8 n.Asks) (h9 : RdS kDoer w A9 c9 n.Doers) (q : (repF n != 0) = true) :
    Calls Tryz.prog 190 #[.agg #[.int .i64 n.Id, .int .i64 n.Size, .int .i64 n.View, .bool n.Normal, .int .i64 n.Last, .slice A5 n.Log.length c5, .int .i64 n.Commit, .slice A7 n.Oks.length c7, .slice A8 n.Asks.length c8, .slice A9 n.Doers.length c9], .agg #[.int .i64 x.Client, .int .i64 x.Seq, .int .i64 x.Op.Kind, .int .i64 x.Op.Vol, .int .i64 x.Op.At, .int .i64 x.Op.Value]] w fun r w' => LaidRR ⟨repF n, zReplica, []⟩ w r w' := by
  have hat := boxReplica w n 29 h5 h7 h8 h9
  have ba : Below (w.alloc (.cells #[.int .i64 n.Id, .int .i64 n.Size, .int .i64 n.View, .bool n.Normal, .int .i64 n.Last, .slice A5 n.Log.length c5, .int .i64 n.Commit, .slice A7 n.Oks.length c7, .slice A8 n.Asks.length c8, .slice A9 n.Doers.length c9] 29)).heap.size (w.alloc (.cells #[.int .i64 n.Id, .int .i64 n.Size, .int .i64 n.View, .bool n.Normal, .int .i64 n.Last, .slice A5 n.Log.length c5, .int .i64 n.Commit, .slice A7 n.Oks.length c7, .slice A8 n.Asks.length c8, .slice A9 n.Doers.length c9] 29)) (((w.alloc (.cells #[.int .i64 n.Id, .int .i64 n.Size, .int .i64 n.View, .bool n.Normal, .int .i64 n.Last, .slice A5 n.Log.length c5, .int .i64 n.Commit, .slice A7 n.Oks.length c7, .slice A8 n.Asks.length c8, .slice A9 n.Doers.length c9] 29)).alloc (.cells #[.int .i64 x.Client, .int .i64 x.Seq, .int .i64 x.Op.Kind, .int .i64 x.Op.Vol, .int .i64 x.Op.At, .int .i64 x.Op.Value] 49)).alloc (.cells #[.int .i64 0, .int .i64 0, .int .i64 0, .int .i64 0, .bool false, .int .i64 0, .slice none 0 0, .int .i64 0, .slice none 0 0, .slice none 0 0, .slice none 0 0, .slice none 0 0] 33)) := below_alloc (below_alloc (Below.refl _ _) _) _
  have HLD := Lib.hid (l9Led_bad n _ _ (hat.below ba) q)
  go_enter Tryz.func190, Tryz.ntmps190
  go_wp2_with fail
  refine HLD.out.mono ?_
  rintro e w1 ⟨rfl, hb1⟩
  have bw1 : Below w.heap.size w w1 := below_trans (below_alloc (below_alloc (below_alloc (Below.refl _ _) _) _) _) hb1
  have nB : Blk w1 w.heap.size 29 [.int .i64 n.Id, .int .i64 n.Size, .int .i64 n.View, .bool n.Normal, .int .i64 n.Last, .slice A5 n.Log.length c5, .int .i64 n.Commit, .slice A7 n.Oks.length c7, .slice A8 n.Asks.length c8, .slice A9 n.Doers.length c9] := (((blk_alloc w [.int .i64 n.Id, .int .i64 n.Size, .int .i64 n.View, .bool n.Normal, .int .i64 n.Last, .slice A5 n.Log.length c5, .int .i64 n.Commit, .slice A7 n.Oks.length c7, .slice A8 n.Asks.length c8, .slice A9 n.Doers.length c9] 29).below (below_alloc (Below.refl _ _) _)).below (below_alloc (Below.refl _ _) _)).below hb1
  have xB : Blk w1 (w.heap.size + 1) 49 [.int .i64 x.Client, .int .i64 x.Seq, .int .i64 x.Op.Kind, .int .i64 x.Op.Vol, .int .i64 x.Op.At, .int .i64 x.Op.Value] := by
    have := ((blk_alloc (w.alloc (.cells #[.int .i64 n.Id, .int .i64 n.Size, .int .i64 n.View, .bool n.Normal, .int .i64 n.Last, .slice A5 n.Log.length c5, .int .i64 n.Commit, .slice A7 n.Oks.length c7, .slice A8 n.Asks.length c8, .slice A9 n.Doers.length c9] 29)) [.int .i64 x.Client, .int .i64 x.Seq, .int .i64 x.Op.Kind, .int .i64 x.Op.Vol, .int .i64 x.Op.At, .int .i64 x.Op.Value] 49).below (below_alloc (Below.refl _ _) (.cells #[.int .i64 0, .int .i64 0, .int .i64 0, .int .i64 0, .bool false, .int .i64 0, .slice none 0 0, .int .i64 0, .slice none 0 0, .slice none 0 0, .slice none 0 0, .slice none 0 0] 33))).below hb1
    simpa only [Deep.nblk_alloc] using this
  have zB : Blk w1 (w.heap.size + 2) 33 [.int .i64 0, .int .i64 0, .int .i64 0, .int .i64 0, .bool false, .int .i64 0, .slice none 0 0, .int .i64 0, .slice none 0 0, .slice none 0 0, .slice none 0 0, .slice none 0 0] := by
    have := (blk_alloc ((w.alloc (.cells #[.int .i64 n.Id, .int .i64 n.Size, .int .i64 n.View, .bool n.Normal, .int .i64 n.Last, .slice A5 n.Log.length c5, .int .i64 n.Commit, .slice A7 n.Oks.length c7, .slice A8 n.Asks.length c8, .slice A9 n.Doers.length c9] 29)).alloc (.cells #[.int .i64 x.Client, .int .i64 x.Seq, .int .i64 x.Op.Kind, .int .i64 x.Op.Vol, .int .i64 x.Op.At, .int .i64 x.Op.Value] 49)) [.int .i64 0, .int .i64 0, .int .i64 0, .int .i64 0, .bool false, .int .i64 0, .slice none 0 0, .int .i64 0, .slice none 0 0, .slice none 0 0, .slice none 0 0, .slice none 0 0] 33).below hb1
    simpa only [Deep.nblk_alloc] using this
  have lo1 : w.heap.size + 3 ≤ w1.heap.size := by have := hb1.size; simp only [Deep.nblk_alloc] at this; omega
  clear hb1 ba hat
  go_wp2_with fail
  refine (l9Bad_c _ w1).mono ?_
  rintro r w9 ⟨rfl, hb9⟩
  have zB9 := zB.below hb9
  have bw9 := below_trans bw1 hb9
  have r0 := zB9.cell (j := 0) rfl
  have y0 := zB9.frozen 0
  have r1 := zB9.cell (j := 1) rfl
  have y1 := zB9.frozen 1
  have r2 := zB9.cell (j := 2) rfl
  have y2 := zB9.frozen 2
  have r3 := zB9.cell (j := 3) rfl
  have y3 := zB9.frozen 3
  have r4 := zB9.cell (j := 4) rfl
  have y4 := zB9.frozen 4
  have r5 := zB9.cell (j := 5) rfl
  have y5 := zB9.frozen 5
  have r6 := zB9.cell (j := 6) rfl
  have y6 := zB9.frozen 6
  have r7 := zB9.cell (j := 7) rfl
  have y7 := zB9.frozen 7
  have r8 := zB9.cell (j := 8) rfl
  have y8 := zB9.frozen 8
  have r9 := zB9.cell (j := 9) rfl
  have y9 := zB9.frozen 9
  have r10 := zB9.cell (j := 10) rfl
  have y10 := zB9.frozen 10
  have r11 := zB9.cell (j := 11) rfl
  have y11 := zB9.frozen 11
  clear zB zB9
  go_wp2_with fail
  refine bodyPost_ret (v := .agg #[.int .i64 (repF n), .int .i64 0, .int .i64 0, .int .i64 0, .bool false, .int .i64 0, .slice none 0 0, .int .i64 0, .slice none 0 0, .slice none 0 0, .slice none 0 0, .slice none 0 0]) (by simp [results, Tryz.results190, go_sem, r0, r1, r2, r3, r4, r5, r6, r7, r8, r9, r10, r11]) rfl (LaidRR.bad _ ?_)
  repeat (first | (with_reducible assumption) | (with_reducible exact Below.refl _ _) | (with_reducible apply below_alloc) | (with_reducible apply below_drewN) | (with_reducible apply Below.drew) | (with_reducible refine below_set ?_ (by dsimp only; omega) _) | (with_reducible refine below_trans ?_ (by assumption)))
set_option maxRecDepth 100000 in
set_option maxHeartbeats 4000000 in
theorem sAsk_idle (n : SReplica) (x : SEntry) (A5 : Option Addr) (c5 : Nat) (A7 : Option Addr) (c7 : Nat) (A8 : Option Addr) (c8 : Nat) (A9 : Option Addr) (c9 : Nat) (w : World) (h5 : RdS kEntry w A5 c5 n.Log) (h7 : RdS kInt w A7 c7 n.Oks) (h8 : RdS kBool w A8 c8 n.Asks) (h9 : RdS kDoer w A9 c9 n.Doers) (q : (repF n != 0) = false) (q1 : leadsB n = false) :
    Calls Tryz.prog 190 #[.agg #[.int .i64 n.Id, .int .i64 n.Size, .int .i64 n.View, .bool n.Normal, .int .i64 n.Last, .slice A5 n.Log.length c5, .int .i64 n.Commit, .slice A7 n.Oks.length c7, .slice A8 n.Asks.length c8, .slice A9 n.Doers.length c9], .agg #[.int .i64 x.Client, .int .i64 x.Seq, .int .i64 x.Op.Kind, .int .i64 x.Op.Vol, .int .i64 x.Op.At, .int .i64 x.Op.Value]] w fun r w' => LaidRR ⟨10, zReplica, []⟩ w r w' := by
  have hat := boxReplica w n 29 h5 h7 h8 h9
  have ba : Below (w.alloc (.cells #[.int .i64 n.Id, .int .i64 n.Size, .int .i64 n.View, .bool n.Normal, .int .i64 n.Last, .slice A5 n.Log.length c5, .int .i64 n.Commit, .slice A7 n.Oks.length c7, .slice A8 n.Asks.length c8, .slice A9 n.Doers.length c9] 29)).heap.size (w.alloc (.cells #[.int .i64 n.Id, .int .i64 n.Size, .int .i64 n.View, .bool n.Normal, .int .i64 n.Last, .slice A5 n.Log.length c5, .int .i64 n.Commit, .slice A7 n.Oks.length c7, .slice A8 n.Asks.length c8, .slice A9 n.Doers.length c9] 29)) (((w.alloc (.cells #[.int .i64 n.Id, .int .i64 n.Size, .int .i64 n.View, .bool n.Normal, .int .i64 n.Last, .slice A5 n.Log.length c5, .int .i64 n.Commit, .slice A7 n.Oks.length c7, .slice A8 n.Asks.length c8, .slice A9 n.Doers.length c9] 29)).alloc (.cells #[.int .i64 x.Client, .int .i64 x.Seq, .int .i64 x.Op.Kind, .int .i64 x.Op.Vol, .int .i64 x.Op.At, .int .i64 x.Op.Value] 49)).alloc (.cells #[.int .i64 0, .int .i64 0, .int .i64 0, .int .i64 0, .bool false, .int .i64 0, .slice none 0 0, .int .i64 0, .slice none 0 0, .slice none 0 0, .slice none 0 0, .slice none 0 0] 33)) := below_alloc (below_alloc (Below.refl _ _) _) _
  have HLD := Lib.hid (l9Led_idle n _ _ (hat.below ba) q q1)
  clear q1
  go_enter Tryz.func190, Tryz.ntmps190
  go_wp2_with fail
  refine HLD.out.mono ?_
  rintro e w1 ⟨rfl, hb1⟩
  have bw1 : Below w.heap.size w w1 := below_trans (below_alloc (below_alloc (below_alloc (Below.refl _ _) _) _) _) hb1
  have nB : Blk w1 w.heap.size 29 [.int .i64 n.Id, .int .i64 n.Size, .int .i64 n.View, .bool n.Normal, .int .i64 n.Last, .slice A5 n.Log.length c5, .int .i64 n.Commit, .slice A7 n.Oks.length c7, .slice A8 n.Asks.length c8, .slice A9 n.Doers.length c9] := (((blk_alloc w [.int .i64 n.Id, .int .i64 n.Size, .int .i64 n.View, .bool n.Normal, .int .i64 n.Last, .slice A5 n.Log.length c5, .int .i64 n.Commit, .slice A7 n.Oks.length c7, .slice A8 n.Asks.length c8, .slice A9 n.Doers.length c9] 29).below (below_alloc (Below.refl _ _) _)).below (below_alloc (Below.refl _ _) _)).below hb1
  have xB : Blk w1 (w.heap.size + 1) 49 [.int .i64 x.Client, .int .i64 x.Seq, .int .i64 x.Op.Kind, .int .i64 x.Op.Vol, .int .i64 x.Op.At, .int .i64 x.Op.Value] := by
    have := ((blk_alloc (w.alloc (.cells #[.int .i64 n.Id, .int .i64 n.Size, .int .i64 n.View, .bool n.Normal, .int .i64 n.Last, .slice A5 n.Log.length c5, .int .i64 n.Commit, .slice A7 n.Oks.length c7, .slice A8 n.Asks.length c8, .slice A9 n.Doers.length c9] 29)) [.int .i64 x.Client, .int .i64 x.Seq, .int .i64 x.Op.Kind, .int .i64 x.Op.Vol, .int .i64 x.Op.At, .int .i64 x.Op.Value] 49).below (below_alloc (Below.refl _ _) (.cells #[.int .i64 0, .int .i64 0, .int .i64 0, .int .i64 0, .bool false, .int .i64 0, .slice none 0 0, .int .i64 0, .slice none 0 0, .slice none 0 0, .slice none 0 0, .slice none 0 0] 33))).below hb1
    simpa only [Deep.nblk_alloc] using this
  have zB : Blk w1 (w.heap.size + 2) 33 [.int .i64 0, .int .i64 0, .int .i64 0, .int .i64 0, .bool false, .int .i64 0, .slice none 0 0, .int .i64 0, .slice none 0 0, .slice none 0 0, .slice none 0 0, .slice none 0 0] := by
    have := (blk_alloc ((w.alloc (.cells #[.int .i64 n.Id, .int .i64 n.Size, .int .i64 n.View, .bool n.Normal, .int .i64 n.Last, .slice A5 n.Log.length c5, .int .i64 n.Commit, .slice A7 n.Oks.length c7, .slice A8 n.Asks.length c8, .slice A9 n.Doers.length c9] 29)).alloc (.cells #[.int .i64 x.Client, .int .i64 x.Seq, .int .i64 x.Op.Kind, .int .i64 x.Op.Vol, .int .i64 x.Op.At, .int .i64 x.Op.Value] 49)) [.int .i64 0, .int .i64 0, .int .i64 0, .int .i64 0, .bool false, .int .i64 0, .slice none 0 0, .int .i64 0, .slice none 0 0, .slice none 0 0, .slice none 0 0, .slice none 0 0] 33).below hb1
    simpa only [Deep.nblk_alloc] using this
  have lo1 : w.heap.size + 3 ≤ w1.heap.size := by have := hb1.size; simp only [Deep.nblk_alloc] at this; omega
  clear hb1 ba hat
  go_wp2_with fail
  refine (l9Bad_c _ w1).mono ?_
  rintro r w9 ⟨rfl, hb9⟩
  have zB9 := zB.below hb9
  have bw9 := below_trans bw1 hb9
  have r0 := zB9.cell (j := 0) rfl
  have y0 := zB9.frozen 0
  have r1 := zB9.cell (j := 1) rfl
  have y1 := zB9.frozen 1
  have r2 := zB9.cell (j := 2) rfl
  have y2 := zB9.frozen 2
  have r3 := zB9.cell (j := 3) rfl
  have y3 := zB9.frozen 3
  have r4 := zB9.cell (j := 4) rfl
  have y4 := zB9.frozen 4
  have r5 := zB9.cell (j := 5) rfl
  have y5 := zB9.frozen 5
  have r6 := zB9.cell (j := 6) rfl
  have y6 := zB9.frozen 6
  have r7 := zB9.cell (j := 7) rfl
  have y7 := zB9.frozen 7
  have r8 := zB9.cell (j := 8) rfl
  have y8 := zB9.frozen 8
  have r9 := zB9.cell (j := 9) rfl
  have y9 := zB9.frozen 9
  have r10 := zB9.cell (j := 10) rfl
  have y10 := zB9.frozen 10
  have r11 := zB9.cell (j := 11) rfl
  have y11 := zB9.frozen 11
  clear zB zB9
  go_wp2_with fail
  refine bodyPost_ret (v := .agg #[.int .i64 10, .int .i64 0, .int .i64 0, .int .i64 0, .bool false, .int .i64 0, .slice none 0 0, .int .i64 0, .slice none 0 0, .slice none 0 0, .slice none 0 0, .slice none 0 0]) (by simp [results, Tryz.results190, go_sem, r0, r1, r2, r3, r4, r5, r6, r7, r8, r9, r10, r11]) rfl (LaidRR.bad _ ?_)
  repeat (first | (with_reducible assumption) | (with_reducible exact Below.refl _ _) | (with_reducible apply below_alloc) | (with_reducible apply below_drewN) | (with_reducible apply Below.drew) | (with_reducible refine below_set ?_ (by dsimp only; omega) _) | (with_reducible refine below_trans ?_ (by assumption)))
set_option maxRecDepth 100000 in
set_option maxHeartbeats 4000000 in
theorem sAsk_wrong (n : SReplica) (x : SEntry) (A5 : Option Addr) (c5 : Nat) (A7 : Option Addr) (c7 : Nat) (A8 : Option Addr) (c8 : Nat) (A9 : Option Addr) (c9 : Nat) (w : World) (h5 : RdS kEntry w A5 c5 n.Log) (h7 : RdS kInt w A7 c7 n.Oks) (h8 : RdS kBool w A8 c8 n.Asks) (h9 : RdS kDoer w A9 c9 n.Doers) (q : (repF n != 0) = false) (q1 : leadsB n = true) (q2 : (entryF x != 0) = true) :
    Calls Tryz.prog 190 #[.agg #[.int .i64 n.Id, .int .i64 n.Size, .int .i64 n.View, .bool n.Normal, .int .i64 n.Last, .slice A5 n.Log.length c5, .int .i64 n.Commit, .slice A7 n.Oks.length c7, .slice A8 n.Asks.length c8, .slice A9 n.Doers.length c9], .agg #[.int .i64 x.Client, .int .i64 x.Seq, .int .i64 x.Op.Kind, .int .i64 x.Op.Vol, .int .i64 x.Op.At, .int .i64 x.Op.Value]] w fun r w' => LaidRR ⟨entryF x, zReplica, []⟩ w r w' := by
  have hat := boxReplica w n 29 h5 h7 h8 h9
  have ba : Below (w.alloc (.cells #[.int .i64 n.Id, .int .i64 n.Size, .int .i64 n.View, .bool n.Normal, .int .i64 n.Last, .slice A5 n.Log.length c5, .int .i64 n.Commit, .slice A7 n.Oks.length c7, .slice A8 n.Asks.length c8, .slice A9 n.Doers.length c9] 29)).heap.size (w.alloc (.cells #[.int .i64 n.Id, .int .i64 n.Size, .int .i64 n.View, .bool n.Normal, .int .i64 n.Last, .slice A5 n.Log.length c5, .int .i64 n.Commit, .slice A7 n.Oks.length c7, .slice A8 n.Asks.length c8, .slice A9 n.Doers.length c9] 29)) (((w.alloc (.cells #[.int .i64 n.Id, .int .i64 n.Size, .int .i64 n.View, .bool n.Normal, .int .i64 n.Last, .slice A5 n.Log.length c5, .int .i64 n.Commit, .slice A7 n.Oks.length c7, .slice A8 n.Asks.length c8, .slice A9 n.Doers.length c9] 29)).alloc (.cells #[.int .i64 x.Client, .int .i64 x.Seq, .int .i64 x.Op.Kind, .int .i64 x.Op.Vol, .int .i64 x.Op.At, .int .i64 x.Op.Value] 49)).alloc (.cells #[.int .i64 0, .int .i64 0, .int .i64 0, .int .i64 0, .bool false, .int .i64 0, .slice none 0 0, .int .i64 0, .slice none 0 0, .slice none 0 0, .slice none 0 0, .slice none 0 0] 33)) := below_alloc (below_alloc (Below.refl _ _) _) _
  have HLD := Lib.hid (l9Led_fine n _ _ (hat.below ba) q q1)
  clear q1
  go_enter Tryz.func190, Tryz.ntmps190
  go_wp2_with fail
  refine HLD.out.mono ?_
  rintro e w1 ⟨rfl, hb1⟩
  have bw1 : Below w.heap.size w w1 := below_trans (below_alloc (below_alloc (below_alloc (Below.refl _ _) _) _) _) hb1
  have nB : Blk w1 w.heap.size 29 [.int .i64 n.Id, .int .i64 n.Size, .int .i64 n.View, .bool n.Normal, .int .i64 n.Last, .slice A5 n.Log.length c5, .int .i64 n.Commit, .slice A7 n.Oks.length c7, .slice A8 n.Asks.length c8, .slice A9 n.Doers.length c9] := (((blk_alloc w [.int .i64 n.Id, .int .i64 n.Size, .int .i64 n.View, .bool n.Normal, .int .i64 n.Last, .slice A5 n.Log.length c5, .int .i64 n.Commit, .slice A7 n.Oks.length c7, .slice A8 n.Asks.length c8, .slice A9 n.Doers.length c9] 29).below (below_alloc (Below.refl _ _) _)).below (below_alloc (Below.refl _ _) _)).below hb1
  have xB : Blk w1 (w.heap.size + 1) 49 [.int .i64 x.Client, .int .i64 x.Seq, .int .i64 x.Op.Kind, .int .i64 x.Op.Vol, .int .i64 x.Op.At, .int .i64 x.Op.Value] := by
    have := ((blk_alloc (w.alloc (.cells #[.int .i64 n.Id, .int .i64 n.Size, .int .i64 n.View, .bool n.Normal, .int .i64 n.Last, .slice A5 n.Log.length c5, .int .i64 n.Commit, .slice A7 n.Oks.length c7, .slice A8 n.Asks.length c8, .slice A9 n.Doers.length c9] 29)) [.int .i64 x.Client, .int .i64 x.Seq, .int .i64 x.Op.Kind, .int .i64 x.Op.Vol, .int .i64 x.Op.At, .int .i64 x.Op.Value] 49).below (below_alloc (Below.refl _ _) (.cells #[.int .i64 0, .int .i64 0, .int .i64 0, .int .i64 0, .bool false, .int .i64 0, .slice none 0 0, .int .i64 0, .slice none 0 0, .slice none 0 0, .slice none 0 0, .slice none 0 0] 33))).below hb1
    simpa only [Deep.nblk_alloc] using this
  have zB : Blk w1 (w.heap.size + 2) 33 [.int .i64 0, .int .i64 0, .int .i64 0, .int .i64 0, .bool false, .int .i64 0, .slice none 0 0, .int .i64 0, .slice none 0 0, .slice none 0 0, .slice none 0 0, .slice none 0 0] := by
    have := (blk_alloc ((w.alloc (.cells #[.int .i64 n.Id, .int .i64 n.Size, .int .i64 n.View, .bool n.Normal, .int .i64 n.Last, .slice A5 n.Log.length c5, .int .i64 n.Commit, .slice A7 n.Oks.length c7, .slice A8 n.Asks.length c8, .slice A9 n.Doers.length c9] 29)).alloc (.cells #[.int .i64 x.Client, .int .i64 x.Seq, .int .i64 x.Op.Kind, .int .i64 x.Op.Vol, .int .i64 x.Op.At, .int .i64 x.Op.Value] 49)) [.int .i64 0, .int .i64 0, .int .i64 0, .int .i64 0, .bool false, .int .i64 0, .slice none 0 0, .int .i64 0, .slice none 0 0, .slice none 0 0, .slice none 0 0, .slice none 0 0] 33).below hb1
    simpa only [Deep.nblk_alloc] using this
  have lo1 : w.heap.size + 3 ≤ w1.heap.size := by have := hb1.size; simp only [Deep.nblk_alloc] at this; omega
  clear hb1 ba hat
  have x0 := xB.cell (j := 0) rfl
  have x1 := xB.cell (j := 1) rfl
  have x2 := xB.cell (j := 2) rfl
  have x3 := xB.cell (j := 3) rfl
  have x4 := xB.cell (j := 4) rfl
  have x5 := xB.cell (j := 5) rfl
  go_wp2_with fail
  refine (entryFaultS_c x w1).mono ?_
  rintro r w2 ⟨rfl, hb2⟩
  have bw2 := below_trans bw1 hb2
  have s2 := hb2.size
  replace nB := nB.below hb2
  replace xB := xB.below hb2
  replace zB := zB.below hb2
  clear x0 x1 x2 x3 x4 x5
  go_wp2_with fail
  refine (l9Bad_c _ w2).mono ?_
  rintro r w9 ⟨rfl, hb9⟩
  have zB9 := zB.below hb9
  have bw9 := below_trans bw2 hb9
  have r0 := zB9.cell (j := 0) rfl
  have y0 := zB9.frozen 0
  have r1 := zB9.cell (j := 1) rfl
  have y1 := zB9.frozen 1
  have r2 := zB9.cell (j := 2) rfl
  have y2 := zB9.frozen 2
  have r3 := zB9.cell (j := 3) rfl
  have y3 := zB9.frozen 3
  have r4 := zB9.cell (j := 4) rfl
  have y4 := zB9.frozen 4
  have r5 := zB9.cell (j := 5) rfl
  have y5 := zB9.frozen 5
  have r6 := zB9.cell (j := 6) rfl
  have y6 := zB9.frozen 6
  have r7 := zB9.cell (j := 7) rfl
  have y7 := zB9.frozen 7
  have r8 := zB9.cell (j := 8) rfl
  have y8 := zB9.frozen 8
  have r9 := zB9.cell (j := 9) rfl
  have y9 := zB9.frozen 9
  have r10 := zB9.cell (j := 10) rfl
  have y10 := zB9.frozen 10
  have r11 := zB9.cell (j := 11) rfl
  have y11 := zB9.frozen 11
  clear zB zB9
  go_wp2_with fail
  refine bodyPost_ret (v := .agg #[.int .i64 (entryF x), .int .i64 0, .int .i64 0, .int .i64 0, .bool false, .int .i64 0, .slice none 0 0, .int .i64 0, .slice none 0 0, .slice none 0 0, .slice none 0 0, .slice none 0 0]) (by simp [results, Tryz.results190, go_sem, r0, r1, r2, r3, r4, r5, r6, r7, r8, r9, r10, r11]) rfl (LaidRR.bad _ ?_)
  repeat (first | (with_reducible assumption) | (with_reducible exact Below.refl _ _) | (with_reducible apply below_alloc) | (with_reducible apply below_drewN) | (with_reducible apply Below.drew) | (with_reducible refine below_set ?_ (by dsimp only; omega) _) | (with_reducible refine below_trans ?_ (by assumption)))
set_option maxRecDepth 100000 in
set_option maxHeartbeats 4000000 in
theorem sAsk_full (n : SReplica) (x : SEntry) (A5 : Option Addr) (c5 : Nat) (A7 : Option Addr) (c7 : Nat) (A8 : Option Addr) (c8 : Nat) (A9 : Option Addr) (c9 : Nat) (w : World) (h5 : RdS kEntry w A5 c5 n.Log) (h7 : RdS kInt w A7 c7 n.Oks) (h8 : RdS kBool w A8 c8 n.Asks) (h9 : RdS kDoer w A9 c9 n.Doers) (q : (repF n != 0) = false) (q1 : leadsB n = true) (q2 : (entryF x != 0) = false) (q3 : n.Log.length = 40) :
    Calls Tryz.prog 190 #[.agg #[.int .i64 n.Id, .int .i64 n.Size, .int .i64 n.View, .bool n.Normal, .int .i64 n.Last, .slice A5 n.Log.length c5, .int .i64 n.Commit, .slice A7 n.Oks.length c7, .slice A8 n.Asks.length c8, .slice A9 n.Doers.length c9], .agg #[.int .i64 x.Client, .int .i64 x.Seq, .int .i64 x.Op.Kind, .int .i64 x.Op.Vol, .int .i64 x.Op.At, .int .i64 x.Op.Value]] w fun r w' => LaidRR ⟨2, zReplica, []⟩ w r w' := by
  have hat := boxReplica w n 29 h5 h7 h8 h9
  have ba : Below (w.alloc (.cells #[.int .i64 n.Id, .int .i64 n.Size, .int .i64 n.View, .bool n.Normal, .int .i64 n.Last, .slice A5 n.Log.length c5, .int .i64 n.Commit, .slice A7 n.Oks.length c7, .slice A8 n.Asks.length c8, .slice A9 n.Doers.length c9] 29)).heap.size (w.alloc (.cells #[.int .i64 n.Id, .int .i64 n.Size, .int .i64 n.View, .bool n.Normal, .int .i64 n.Last, .slice A5 n.Log.length c5, .int .i64 n.Commit, .slice A7 n.Oks.length c7, .slice A8 n.Asks.length c8, .slice A9 n.Doers.length c9] 29)) (((w.alloc (.cells #[.int .i64 n.Id, .int .i64 n.Size, .int .i64 n.View, .bool n.Normal, .int .i64 n.Last, .slice A5 n.Log.length c5, .int .i64 n.Commit, .slice A7 n.Oks.length c7, .slice A8 n.Asks.length c8, .slice A9 n.Doers.length c9] 29)).alloc (.cells #[.int .i64 x.Client, .int .i64 x.Seq, .int .i64 x.Op.Kind, .int .i64 x.Op.Vol, .int .i64 x.Op.At, .int .i64 x.Op.Value] 49)).alloc (.cells #[.int .i64 0, .int .i64 0, .int .i64 0, .int .i64 0, .bool false, .int .i64 0, .slice none 0 0, .int .i64 0, .slice none 0 0, .slice none 0 0, .slice none 0 0, .slice none 0 0] 33)) := below_alloc (below_alloc (Below.refl _ _) _) _
  have Q3 := Lib.hid q3
  have q3a : 40 ≤ n.Log.length := by omega
  have q3b : n.Log.length ≤ 40 := by omega
  clear q3
  have HLD := Lib.hid (l9Led_fine n _ _ (hat.below ba) q q1)
  clear q1
  go_enter Tryz.func190, Tryz.ntmps190
  go_wp2_with fail
  refine HLD.out.mono ?_
  rintro e w1 ⟨rfl, hb1⟩
  have bw1 : Below w.heap.size w w1 := below_trans (below_alloc (below_alloc (below_alloc (Below.refl _ _) _) _) _) hb1
  have nB : Blk w1 w.heap.size 29 [.int .i64 n.Id, .int .i64 n.Size, .int .i64 n.View, .bool n.Normal, .int .i64 n.Last, .slice A5 n.Log.length c5, .int .i64 n.Commit, .slice A7 n.Oks.length c7, .slice A8 n.Asks.length c8, .slice A9 n.Doers.length c9] := (((blk_alloc w [.int .i64 n.Id, .int .i64 n.Size, .int .i64 n.View, .bool n.Normal, .int .i64 n.Last, .slice A5 n.Log.length c5, .int .i64 n.Commit, .slice A7 n.Oks.length c7, .slice A8 n.Asks.length c8, .slice A9 n.Doers.length c9] 29).below (below_alloc (Below.refl _ _) _)).below (below_alloc (Below.refl _ _) _)).below hb1
  have xB : Blk w1 (w.heap.size + 1) 49 [.int .i64 x.Client, .int .i64 x.Seq, .int .i64 x.Op.Kind, .int .i64 x.Op.Vol, .int .i64 x.Op.At, .int .i64 x.Op.Value] := by
    have := ((blk_alloc (w.alloc (.cells #[.int .i64 n.Id, .int .i64 n.Size, .int .i64 n.View, .bool n.Normal, .int .i64 n.Last, .slice A5 n.Log.length c5, .int .i64 n.Commit, .slice A7 n.Oks.length c7, .slice A8 n.Asks.length c8, .slice A9 n.Doers.length c9] 29)) [.int .i64 x.Client, .int .i64 x.Seq, .int .i64 x.Op.Kind, .int .i64 x.Op.Vol, .int .i64 x.Op.At, .int .i64 x.Op.Value] 49).below (below_alloc (Below.refl _ _) (.cells #[.int .i64 0, .int .i64 0, .int .i64 0, .int .i64 0, .bool false, .int .i64 0, .slice none 0 0, .int .i64 0, .slice none 0 0, .slice none 0 0, .slice none 0 0, .slice none 0 0] 33))).below hb1
    simpa only [Deep.nblk_alloc] using this
  have zB : Blk w1 (w.heap.size + 2) 33 [.int .i64 0, .int .i64 0, .int .i64 0, .int .i64 0, .bool false, .int .i64 0, .slice none 0 0, .int .i64 0, .slice none 0 0, .slice none 0 0, .slice none 0 0, .slice none 0 0] := by
    have := (blk_alloc ((w.alloc (.cells #[.int .i64 n.Id, .int .i64 n.Size, .int .i64 n.View, .bool n.Normal, .int .i64 n.Last, .slice A5 n.Log.length c5, .int .i64 n.Commit, .slice A7 n.Oks.length c7, .slice A8 n.Asks.length c8, .slice A9 n.Doers.length c9] 29)).alloc (.cells #[.int .i64 x.Client, .int .i64 x.Seq, .int .i64 x.Op.Kind, .int .i64 x.Op.Vol, .int .i64 x.Op.At, .int .i64 x.Op.Value] 49)) [.int .i64 0, .int .i64 0, .int .i64 0, .int .i64 0, .bool false, .int .i64 0, .slice none 0 0, .int .i64 0, .slice none 0 0, .slice none 0 0, .slice none 0 0, .slice none 0 0] 33).below hb1
    simpa only [Deep.nblk_alloc] using this
  have lo1 : w.heap.size + 3 ≤ w1.heap.size := by have := hb1.size; simp only [Deep.nblk_alloc] at this; omega
  clear hb1 ba hat
  have x0 := xB.cell (j := 0) rfl
  have x1 := xB.cell (j := 1) rfl
  have x2 := xB.cell (j := 2) rfl
  have x3 := xB.cell (j := 3) rfl
  have x4 := xB.cell (j := 4) rfl
  have x5 := xB.cell (j := 5) rfl
  go_wp2_with fail
  refine (entryFaultS_c x w1).mono ?_
  rintro r w2 ⟨rfl, hb2⟩
  have bw2 := below_trans bw1 hb2
  have s2 := hb2.size
  replace nB := nB.below hb2
  replace xB := xB.below hb2
  replace zB := zB.below hb2
  clear x0 x1 x2 x3 x4 x5
  have n5 := nB.cell (j := 5) rfl
  have hd : decide ((40 : Int) ≤ (n.Log.length : Int)) = true := decide_eq_true (by omega)
  have hll : n.Log.length ≤ 9223372036854775807 := by omega
  go_wp2_with fail
  refine (l9Bad_c _ w2).mono ?_
  rintro r w9 ⟨rfl, hb9⟩
  have zB9 := zB.below hb9
  have bw9 := below_trans bw2 hb9
  have r0 := zB9.cell (j := 0) rfl
  have y0 := zB9.frozen 0
  have r1 := zB9.cell (j := 1) rfl
  have y1 := zB9.frozen 1
  have r2 := zB9.cell (j := 2) rfl
  have y2 := zB9.frozen 2
  have r3 := zB9.cell (j := 3) rfl
  have y3 := zB9.frozen 3
  have r4 := zB9.cell (j := 4) rfl
  have y4 := zB9.frozen 4
  have r5 := zB9.cell (j := 5) rfl
  have y5 := zB9.frozen 5
  have r6 := zB9.cell (j := 6) rfl
  have y6 := zB9.frozen 6
  have r7 := zB9.cell (j := 7) rfl
  have y7 := zB9.frozen 7
  have r8 := zB9.cell (j := 8) rfl
  have y8 := zB9.frozen 8
  have r9 := zB9.cell (j := 9) rfl
  have y9 := zB9.frozen 9
  have r10 := zB9.cell (j := 10) rfl
  have y10 := zB9.frozen 10
  have r11 := zB9.cell (j := 11) rfl
  have y11 := zB9.frozen 11
  clear zB zB9
  go_wp2_with fail
  refine bodyPost_ret (v := .agg #[.int .i64 2, .int .i64 0, .int .i64 0, .int .i64 0, .bool false, .int .i64 0, .slice none 0 0, .int .i64 0, .slice none 0 0, .slice none 0 0, .slice none 0 0, .slice none 0 0]) (by simp [results, Tryz.results190, go_sem, r0, r1, r2, r3, r4, r5, r6, r7, r8, r9, r10, r11]) rfl (LaidRR.bad _ ?_)
  repeat (first | (with_reducible assumption) | (with_reducible exact Below.refl _ _) | (with_reducible apply below_alloc) | (with_reducible apply below_drewN) | (with_reducible apply Below.drew) | (with_reducible refine below_set ?_ (by dsimp only; omega) _) | (with_reducible refine below_trans ?_ (by assumption)))
set_option maxRecDepth 100000 in
set_option maxHeartbeats 4000000 in
theorem sAsk_did (n : SReplica) (x : SEntry) (A5 : Option Addr) (c5 : Nat) (A7 : Option Addr) (c7 : Nat) (A8 : Option Addr) (c8 : Nat) (A9 : Option Addr) (c9 : Nat) (w : World) (h5 : RdS kEntry w A5 c5 n.Log) (h7 : RdS kInt w A7 c7 n.Oks) (h8 : RdS kBool w A8 c8 n.Asks) (h9 : RdS kDoer w A9 c9 n.Doers) (q : (repF n != 0) = false) (q1 : leadsB n = true) (q2 : (entryF x != 0) = false) (q3 : n.Log.length < 40) (i s v : Nat) (hN : NumsRep n i s v) (hoks : n.Oks.length = s) :
    Calls Tryz.prog 190 #[.agg #[.int .i64 n.Id, .int .i64 n.Size, .int .i64 n.View, .bool n.Normal, .int .i64 n.Last, .slice A5 n.Log.length c5, .int .i64 n.Commit, .slice A7 n.Oks.length c7, .slice A8 n.Asks.length c8, .slice A9 n.Doers.length c9], .agg #[.int .i64 x.Client, .int .i64 x.Seq, .int .i64 x.Op.Kind, .int .i64 x.Op.Vol, .int .i64 x.Op.At, .int .i64 x.Op.Value]] w fun r w' => LaidRR ⟨0, addR n x i, addM (addR n x i) i s v⟩ w r w' := by
  have hat := boxReplica w n 29 h5 h7 h8 h9
  have ba : Below (w.alloc (.cells #[.int .i64 n.Id, .int .i64 n.Size, .int .i64 n.View, .bool n.Normal, .int .i64 n.Last, .slice A5 n.Log.length c5, .int .i64 n.Commit, .slice A7 n.Oks.length c7, .slice A8 n.Asks.length c8, .slice A9 n.Doers.length c9] 29)).heap.size (w.alloc (.cells #[.int .i64 n.Id, .int .i64 n.Size, .int .i64 n.View, .bool n.Normal, .int .i64 n.Last, .slice A5 n.Log.length c5, .int .i64 n.Commit, .slice A7 n.Oks.length c7, .slice A8 n.Asks.length c8, .slice A9 n.Doers.length c9] 29)) (((w.alloc (.cells #[.int .i64 n.Id, .int .i64 n.Size, .int .i64 n.View, .bool n.Normal, .int .i64 n.Last, .slice A5 n.Log.length c5, .int .i64 n.Commit, .slice A7 n.Oks.length c7, .slice A8 n.Asks.length c8, .slice A9 n.Doers.length c9] 29)).alloc (.cells #[.int .i64 x.Client, .int .i64 x.Seq, .int .i64 x.Op.Kind, .int .i64 x.Op.Vol, .int .i64 x.Op.At, .int .i64 x.Op.Value] 49)).alloc (.cells #[.int .i64 0, .int .i64 0, .int .i64 0, .int .i64 0, .bool false, .int .i64 0, .slice none 0 0, .int .i64 0, .slice none 0 0, .slice none 0 0, .slice none 0 0, .slice none 0 0] 33)) := below_alloc (below_alloc (Below.refl _ _) _) _
  have hsm := hN.small
  obtain ⟨e1, e2, e3, l1, l2, l3, l4, l5, l6, l7, l8⟩ := hN
  have E1 := Lib.hid e1
  have E2 := Lib.hid e2
  have E3 := Lib.hid e3
  have HOK := Lib.hid hoks
  clear e1 e2 e3 l4 l5 l6 l8 hoks
  have HLD := Lib.hid (l9Led_fine n _ _ (hat.below ba) q q1)
  clear q1
  go_enter Tryz.func190, Tryz.ntmps190
  go_wp2_with fail
  refine HLD.out.mono ?_
  rintro e w1 ⟨rfl, hb1⟩
  have bw1 : Below w.heap.size w w1 := below_trans (below_alloc (below_alloc (below_alloc (Below.refl _ _) _) _) _) hb1
  have nB : Blk w1 w.heap.size 29 [.int .i64 n.Id, .int .i64 n.Size, .int .i64 n.View, .bool n.Normal, .int .i64 n.Last, .slice A5 n.Log.length c5, .int .i64 n.Commit, .slice A7 n.Oks.length c7, .slice A8 n.Asks.length c8, .slice A9 n.Doers.length c9] := (((blk_alloc w [.int .i64 n.Id, .int .i64 n.Size, .int .i64 n.View, .bool n.Normal, .int .i64 n.Last, .slice A5 n.Log.length c5, .int .i64 n.Commit, .slice A7 n.Oks.length c7, .slice A8 n.Asks.length c8, .slice A9 n.Doers.length c9] 29).below (below_alloc (Below.refl _ _) _)).below (below_alloc (Below.refl _ _) _)).below hb1
  have xB : Blk w1 (w.heap.size + 1) 49 [.int .i64 x.Client, .int .i64 x.Seq, .int .i64 x.Op.Kind, .int .i64 x.Op.Vol, .int .i64 x.Op.At, .int .i64 x.Op.Value] := by
    have := ((blk_alloc (w.alloc (.cells #[.int .i64 n.Id, .int .i64 n.Size, .int .i64 n.View, .bool n.Normal, .int .i64 n.Last, .slice A5 n.Log.length c5, .int .i64 n.Commit, .slice A7 n.Oks.length c7, .slice A8 n.Asks.length c8, .slice A9 n.Doers.length c9] 29)) [.int .i64 x.Client, .int .i64 x.Seq, .int .i64 x.Op.Kind, .int .i64 x.Op.Vol, .int .i64 x.Op.At, .int .i64 x.Op.Value] 49).below (below_alloc (Below.refl _ _) (.cells #[.int .i64 0, .int .i64 0, .int .i64 0, .int .i64 0, .bool false, .int .i64 0, .slice none 0 0, .int .i64 0, .slice none 0 0, .slice none 0 0, .slice none 0 0, .slice none 0 0] 33))).below hb1
    simpa only [Deep.nblk_alloc] using this
  have zB : Blk w1 (w.heap.size + 2) 33 [.int .i64 0, .int .i64 0, .int .i64 0, .int .i64 0, .bool false, .int .i64 0, .slice none 0 0, .int .i64 0, .slice none 0 0, .slice none 0 0, .slice none 0 0, .slice none 0 0] := by
    have := (blk_alloc ((w.alloc (.cells #[.int .i64 n.Id, .int .i64 n.Size, .int .i64 n.View, .bool n.Normal, .int .i64 n.Last, .slice A5 n.Log.length c5, .int .i64 n.Commit, .slice A7 n.Oks.length c7, .slice A8 n.Asks.length c8, .slice A9 n.Doers.length c9] 29)).alloc (.cells #[.int .i64 x.Client, .int .i64 x.Seq, .int .i64 x.Op.Kind, .int .i64 x.Op.Vol, .int .i64 x.Op.At, .int .i64 x.Op.Value] 49)) [.int .i64 0, .int .i64 0, .int .i64 0, .int .i64 0, .bool false, .int .i64 0, .slice none 0 0, .int .i64 0, .slice none 0 0, .slice none 0 0, .slice none 0 0, .slice none 0 0] 33).below hb1
    simpa only [Deep.nblk_alloc] using this
  have lo1 : w.heap.size + 3 ≤ w1.heap.size := by have := hb1.size; simp only [Deep.nblk_alloc] at this; omega
  clear hb1 ba hat
  have x0 := xB.cell (j := 0) rfl
  have x1 := xB.cell (j := 1) rfl
  have x2 := xB.cell (j := 2) rfl
  have x3 := xB.cell (j := 3) rfl
  have x4 := xB.cell (j := 4) rfl
  have x5 := xB.cell (j := 5) rfl
  go_wp2_with fail
  refine (entryFaultS_c x w1).mono ?_
  rintro r w2 ⟨rfl, hb2⟩
  have bw2 := below_trans bw1 hb2
  have s2 := hb2.size
  replace nB := nB.below hb2
  replace xB := xB.below hb2
  replace zB := zB.below hb2
  clear x0 x1 x2 x3 x4 x5
  have n5 := nB.cell (j := 5) rfl
  have hd : decide ((40 : Int) ≤ (n.Log.length : Int)) = false := decide_eq_false (by omega)
  have n0 := nB.cell (j := 0) rfl
  have n1 := nB.cell (j := 1) rfl
  have n2 := nB.cell (j := 2) rfl
  have n3 := nB.cell (j := 3) rfl
  have n4 := nB.cell (j := 4) rfl
  have n6 := nB.cell (j := 6) rfl
  have n7 := nB.cell (j := 7) rfl
  have n8 := nB.cell (j := 8) rfl
  have n9 := nB.cell (j := 9) rfl
  go_wp2_with fail
  clear n0 n1 n2 n3 n4 n5 n6 n7 n8 n9 hd
  refine (l9Copy_c n _ _ _ _ _ _ _ _ w2 (h5.below bw2) (h7.below bw2) (h8.below bw2) (h9.below bw2) hsm).mono ?_
  rintro r w3 ⟨B5, d5, B7, d7, B8, d8, B9, d9, f5, f7, f8, f9, rfl, ⟨o5, o7, o8, o9, nd⟩, hb3⟩
  have s3 := hb3.size
  have k5 := o5.in
  have k7 := o7.in
  have k8 := o8.in
  have k9 := o9.in
  go_upto_region 11 with fail
  refine at_world (fun W => Blk W w3.heap.size 33 [.int .i64 0, .int .i64 n.Id, .int .i64 n.Size, .int .i64 n.View, .bool n.Normal, .int .i64 n.Last, .slice B5 n.Log.length d5, .int .i64 n.Commit, .slice B7 n.Oks.length d7, .slice B8 n.Asks.length d8, .slice B9 n.Doers.length d9, .slice none 0 0] ∧ Below w3.heap.size w3 W ∧ w3.heap.size < W.heap.size) ⟨blk_alloc w3 [.int .i64 0, .int .i64 n.Id, .int .i64 n.Size, .int .i64 n.View, .bool n.Normal, .int .i64 n.Last, .slice B5 n.Log.length d5, .int .i64 n.Commit, .slice B7 n.Oks.length d7, .slice B8 n.Asks.length d8, .slice B9 n.Doers.length d9, .slice none 0 0] _, below_alloc (Below.refl _ _) _, by rw [Deep.nblk_alloc]; omega⟩ ?_
  rintro W4 ⟨rB, b4, s4⟩
  have b24 := below_trans hb3 b4
  replace nB := nB.below b24
  replace xB := xB.below b24
  replace zB := zB.below b24
  replace o5 := OwnS.bel' o5 b4
  replace o7 := OwnS.bel' o7 b4
  replace o8 := OwnS.bel' o8 b4
  replace o9 := OwnS.bel' o9 b4
  have bw4 := below_trans bw2 b24
  clear hb3 b4 b24 bw1 bw2
  obtain ⟨nd5, ndr, d5r⟩ := List.nodup_append.1 nd
  have u6 := rB.cell (j := 6) rfl
  have x0 := xB.cell (j := 0) rfl
  have x1 := xB.cell (j := 1) rfl
  have x2 := xB.cell (j := 2) rfl
  have x3 := xB.cell (j := 3) rfl
  have x4 := xB.cell (j := 4) rfl
  have x5 := xB.cell (j := 5) rfl
  have lr := rB.lt
  have OW := Lib.hid (OwnS.keep (w' := W4.alloc (.cells #[.int .i64 x.Client, .int .i64 x.Seq, .int .i64 x.Op.Kind, .int .i64 x.Op.Vol, .int .i64 x.Op.At, .int .i64 x.Op.Value] 49)) o5 (fun y hy => Below.heap_alloc W4 (.cells #[.int .i64 x.Client, .int .i64 x.Seq, .int .i64 x.Op.Kind, .int .i64 x.Op.Vol, .int .i64 x.Op.At, .int .i64 x.Op.Value] 49) _ (o5.in y hy).2))
  have oL : kEntry.Own w2.heap.size (W4.alloc (.cells #[.int .i64 x.Client, .int .i64 x.Seq, .int .i64 x.Op.Kind, .int .i64 x.Op.Vol, .int .i64 x.Op.At, .int .i64 x.Op.Value] 49)) [] [.int .i64 x.Client, .int .i64 x.Seq, .int .i64 x.Op.Kind, .int .i64 x.Op.Vol, .int .i64 x.Op.At, .int .i64 x.Op.Value] x := kEntry_ownmk x
  have hl6 := lies_alloc W4 #[.int .i64 x.Client, .int .i64 x.Seq, .int .i64 x.Op.Kind, .int .i64 x.Op.Vol, .int .i64 x.Op.At, .int .i64 x.Op.Value] 49
  have y7 := rB.below (below_alloc (Below.refl _ _) (.cells #[.int .i64 x.Client, .int .i64 x.Seq, .int .i64 x.Op.Kind, .int .i64 x.Op.Vol, .int .i64 x.Op.At, .int .i64 x.Op.Value] 49))
  have nr5 : w3.heap.size ∉ f5 := fun h => by have := k5 _ h; omega
  clear o5
  go_upto_region 12 with (refine wpList_app (d := kEntry) (zs := [x]) (ys := n.Log) (fp := f5) (fs := []) (B := w2.heap.size) rfl _ _ 24 49 rfl (by kernel_rfl) (by kernel_rfl) rfl rfl OW.out nd5 (Src.ofSlice (P := Tryz.prog) (e' := 49) _ (by kernel_rfl) ⟨W4.heap.size, 0, none⟩ 1 1 _ rfl hl6 (kEntry.rd_one (kEntry.own_rd oL))) (OwnL.single oL) List.nodup_nil (fun _ _ hm => by cases hm) (by simp; omega) (by rw [Deep.nblk_alloc]; omega) ?_; intro v' w' fp' hgr; obtain ⟨r1, r2, r3, r4⟩ := hgr; obtain ⟨AA, cA, rfl, _⟩ := r1.form; have yA := y7.keep (w' := w') (r3.block _ y7.lt nr5); have qA := yA.cell (j := 6) rfl; have fA := yA.frozen 6)
  have hfr' : ∀ y ∈ fp', y ∈ f5 ∨ W4.heap.size ≤ y := fun y hy => by
    rcases r4 y hy with h | h | h
    · exact .inl h
    · cases h
    · right; rw [Deep.nblk_alloc] at h; omega
  have hrp : w3.heap.size ∉ fp' := fun h => by
    rcases hfr' _ h with h | h
    · have := k5 _ h; omega
    · omega
  rw [show (n.Log ++ [x]).length = n.Log.length + 1 by simp] at r1
  have hT : Turn (w3.heap.size :: f5) W4 w' := ((Turn.refl _ _).alloc _).trans (r3.mono (fun y hy => by simp [hy]))
  refine at_world (fun W => Blk W w3.heap.size 33 [.int .i64 0, .int .i64 n.Id, .int .i64 n.Size, .int .i64 n.View, .bool n.Normal, .int .i64 n.Last, .slice AA (n.Log.length + 1) cA, .int .i64 n.Commit, .slice B7 n.Oks.length d7, .slice B8 n.Asks.length d8, .slice B9 n.Doers.length d9, .slice none 0 0] ∧ OwnS kEntry 49 w2.heap.size W fp' (.slice AA (n.Log.length + 1) cA) (n.Log ++ [x]) ∧ Turn (w3.heap.size :: f5) W4 W) ⟨by simpa using yA.set0 6 (.slice AA (n.Log.length + 1) cA), OwnS.turn r1 ((Turn.refl [w3.heap.size] w').set (p := ⟨w3.heap.size, 6, none⟩) (by simp) _) (fun y hy hm => hrp (by simp at hm; exact hm ▸ hy)), hT.set (p := ⟨w3.heap.size, 6, none⟩) (by simp) _⟩ ?_
  rintro W5 ⟨rB5, o5, t5⟩
  clear r1 r3 r4 yA qA fA hT y7 OW oL hl6 rB u6 x0 x1 x2 x3 x4 x5
  have s5 := t5.size
  have nt : ∀ y, y < w2.heap.size → y ∉ w3.heap.size :: f5 := fun y hy h => by
    rcases List.mem_cons.1 h with h | h
    · omega
    · have := k5 y h; omega
  replace nB := nB.turn t5 (nt _ (by omega))
  replace xB := xB.turn t5 (nt _ (by omega))
  replace zB := zB.turn t5 (nt _ (by omega))
  have hd5 : ∀ (f : List Nat), (∀ y ∈ f, y < w3.heap.size ∧ y ∉ f5) → ∀ y ∈ f, y ∉ w3.heap.size :: f5 := fun f hf y hy h => by
    rcases List.mem_cons.1 h with h | h
    · have := (hf y hy).1; omega
    · exact (hf y hy).2 h
  replace o7 := OwnS.turn o7 t5 (hd5 f7 (fun y hy => ⟨(k7 y hy).2, fun h => d5r y h y (by simp [hy]) rfl⟩))
  replace o8 := OwnS.turn o8 t5 (hd5 f8 (fun y hy => ⟨(k8 y hy).2, fun h => d5r y h y (by simp [hy]) rfl⟩))
  replace o9 := OwnS.turn o9 t5 (hd5 f9 (fun y hy => ⟨(k9 y hy).2, fun h => d5r y h y (by simp [hy]) rfl⟩))
  have bw5 : Below w.heap.size w W5 := bw4.trans (t5.below (fun y hy => by rcases List.mem_cons.1 hy with h | h; omega; have := k5 y h; omega) (by omega))
  clear hd5 t5 nt
  have g1 := rB5.cell (j := 1) rfl
  have g2 := rB5.cell (j := 2) rfl
  have g6 := rB5.cell (j := 6) rfl
  have g8 := rB5.cell (j := 8) rfl
  rw [E1.out] at g1
  rw [E2.out] at g2
  have hA := fun (W : World) (hW : Below W5.heap.size W5 W) => l9Agreed_c i s n.Oks (n.Log ++ [x]) AA cA B7 d7 ⟨w3.heap.size, 1, none⟩ W (cell_below hW g1) (cell_below hW g2) (by simpa using cell_below hW g6) (cell_below hW g8) ((ownS_rds o7).1.below hW) HOK.out l1 l2 (by simp; omega)
  simp only [List.length_append, List.length_singleton] at hA
  have HA := Lib.hid hA
  clear hA g1 g2 g6 g8
  have n6 := nB.cell (j := 6) rfl
  have g7 := rB5.cell (j := 7) rfl
  have z7 := rB5.frozen 7
  have lr5 := rB5.lt
  go_cut [42] (fun _ W => Blk W w3.heap.size 33 [.int .i64 0, .int .i64 n.Id, .int .i64 n.Size, .int .i64 n.View, .bool n.Normal, .int .i64 n.Last, .slice AA (n.Log.length + 1) cA, .int .i64 (max n.Commit (agreedN n.Oks i (n.Log.length + 1))), .slice B7 n.Oks.length d7, .slice B8 n.Asks.length d8, .slice B9 n.Doers.length d9, .slice none 0 0] ∧ Turn [w3.heap.size] W5 W)
  case first =>
    go_region_with (first | (go_at_call 55; refine (HA.out _ (by repeat (first | (with_reducible assumption) | (with_reducible exact Below.refl _ _) | (with_reducible apply below_alloc) | (with_reducible apply below_drewN) | (with_reducible apply Below.drew) | (with_reducible refine below_set ?_ (by dsimp only; omega) _) | (with_reducible refine below_trans ?_ (by assumption))))).mono ?_; rintro e w8 ⟨rfl, rfl⟩) | (go_at_call 54; refine (l1Max_c _ _ _).mono ?_; rintro e w8 ⟨rfl, rfl⟩))
    all_goals (go_wp2_with fail)
    all_goals (go_meet)
    all_goals
      first
        | exact ⟨Blk.keep (rB5.set0 7 (.int .i64 (max n.Commit (agreedN n.Oks i (n.Log.length + 1))))) rfl, ((Turn.refl [w3.heap.size] W5).set (p := ⟨w3.heap.size, 7, none⟩) (by simp) _)⟩
        | exact ⟨Blk.keep (rB5.set0 7 (.int .i64 (max n.Commit (agreedN n.Oks i (n.Log.length + 1))))) rfl, ((Turn.refl [w3.heap.size] W5).set (p := ⟨w3.heap.size, 7, none⟩) (by simp) _).drew⟩
  case rest =>
    obtain ⟨rB6, t6⟩ := hcut
    clear HA n6 g7 z7 rB5
    have s6 := t6.size
    replace nB := nB.turn t6 (by simp; omega)
    replace xB := xB.turn t6 (by simp; omega)
    replace zB := zB.turn t6 (by simp; omega)
    replace o5 := OwnS.turn o5 t6 (fun y hy h => by simp at h; exact hrp (h ▸ hy))
    replace o7 := OwnS.turn o7 t6 (fun y hy h => by simp at h; have := k7 y hy; omega)
    replace o8 := OwnS.turn o8 t6 (fun y hy h => by simp at h; have := k8 y hy; omega)
    replace o9 := OwnS.turn o9 t6 (fun y hy h => by simp at h; have := k9 y hy; omega)
    have bw6 : Below w.heap.size w wc := bw5.trans (t6.below (by simp; omega) (by omega))
    obtain ⟨V, hV⟩ : ∃ V, V = wc := ⟨_, rfl⟩
    subst hV
    have hFk : ∀ k : Nat, prepM i v (max n.Commit (agreedN n.Oks i (n.Log.length + 1))) (n.Log ++ [x]) k (n.Log.length : Nat) = ⟨1, i, k, v, n.Log.length, true, x, 0, [], (max n.Commit (agreedN n.Oks i (n.Log.length + 1)))⟩ := fun k => by
      unfold prepM; rw [if_pos (by simp; omega)]; simp
    have HFK := Lib.hid hFk
    have fpV : ∀ y ∈ fp', y < V.heap.size := fun y hy => (o5.in y hy).2
    clear hFk
    go_wp2_with fail
    go_loopw [9] (fun j W => ∃ k : Nat, k ≤ s ∧ j = .int .i64 k ∧ ∃ vv fq, OwnS kMail 51 w2.heap.size W fq vv (allTo (fun k => prepM i v (max n.Commit (agreedN n.Oks i (n.Log.length + 1))) (n.Log ++ [x]) k (n.Log.length : Nat)) i k) ∧ fq.Nodup ∧ Blk W w3.heap.size 33 [.int .i64 0, .int .i64 n.Id, .int .i64 n.Size, .int .i64 n.View, .bool n.Normal, .int .i64 n.Last, .slice AA (n.Log.length + 1) cA, .int .i64 (max n.Commit (agreedN n.Oks i (n.Log.length + 1))), .slice B7 n.Oks.length d7, .slice B8 n.Asks.length d8, .slice B9 n.Doers.length d9, vv] ∧ Turn [w3.heap.size] V W ∧ ∀ y ∈ fq, V.heap.size ≤ y) (fun j _ => s - (intOf j).toNat)
    case atStart => exact ⟨0, Nat.zero_le _, rfl, .slice none 0 0, [], by simpa [allTo] using ownS_nil _ _ _, List.nodup_nil, rB6, Turn.refl _ _, fun y hy => by cases hy⟩
    case round =>
      obtain ⟨k, hk, rfl, vv, fq, ow, ndq, rBr, ht, hfr⟩ := hrel
      have sT := ht.size
      have hin := ow.in
      have hlen := allTo_len (fun k => prepM i v (max n.Commit (agreedN n.Oks i (n.Log.length + 1))) (n.Log ++ [x]) k (n.Log.length : Nat)) i k
      have nBr := nB.turn ht (by simp; omega)
      have n0 := nBr.cell (j := 0) rfl
      have n1 := nBr.cell (j := 1) rfl
      have n2 := nBr.cell (j := 2) rfl
      rw [E1.out] at n0
      rw [E2.out] at n1
      rw [E3.out] at n2
      have lrr := rBr.lt
      by_cases hlt : k < s
      · have hlt' : (k : Int) < (s : Int) := by omega
        by_cases hki : k = i
        · obtain rfl : i = k := hki.symm
          have he : ((i : Int) != (i : Int)) = false := by simp
          rw [← allTo_same (fun j => prepM i v (max n.Commit (agreedN n.Oks i (n.Log.length + 1))) (n.Log ++ [x]) j (n.Log.length : Nat)) i] at ow
          have OWW := Lib.hid ow
          clear ow hlen
          go_wp2_with fail
          exact ⟨⟨i + 1, hlt, by go_num, vv, fq, OWW.out, ndq, rBr, ht, hfr⟩, by simp [intOf]; omega⟩
        · have he : ((k : Int) != (i : Int)) = true := by simp; omega
          have HSU := Lib.hid (allTo_succ (fun j => prepM i v (max n.Commit (agreedN n.Oks i (n.Log.length + 1))) (n.Log ++ [x]) j (n.Log.length : Nat)) hki)
          obtain ⟨AS, cS, rfl, _⟩ := ow.form
          have HF := Lib.hid (HFK.out k)
          generalize hys : allTo (fun k => prepM i v (max n.Commit (agreedN n.Oks i (n.Log.length + 1))) (n.Log ++ [x]) k (n.Log.length : Nat)) i k = ys at ow hlen rBr HSU
          have xBr := xB.turn ht (by simp; omega)
          have x0 := xBr.cell (j := 0) rfl
          have x1 := xBr.cell (j := 1) rfl
          have x2 := xBr.cell (j := 2) rfl
          have x3 := xBr.cell (j := 3) rfl
          have x4 := xBr.cell (j := 4) rfl
          have x5 := xBr.cell (j := 5) rfl
          have q7 := rBr.cell (j := 7) rfl
          have q11 := rBr.cell (j := 11) rfl
          have oL : kMail.Own w2.heap.size (wr.alloc (.cells #[.int .i64 1, .int .i64 i, .int .i64 k, .int .i64 v, .int .i64 (n.Log.length : Int), .bool true, .int .i64 x.Client, .int .i64 x.Seq, .int .i64 x.Op.Kind, .int .i64 x.Op.Vol, .int .i64 x.Op.At, .int .i64 x.Op.Value, .int .i64 0, .slice none 0 0, .int .i64 (max n.Commit (agreedN n.Oks i (n.Log.length + 1)))] 51)) [] [.int .i64 1, .int .i64 i, .int .i64 k, .int .i64 v, .int .i64 (n.Log.length : Int), .bool true, .int .i64 x.Client, .int .i64 x.Seq, .int .i64 x.Op.Kind, .int .i64 x.Op.Vol, .int .i64 x.Op.At, .int .i64 x.Op.Value, .int .i64 0, .slice none 0 0, .int .i64 (max n.Commit (agreedN n.Oks i (n.Log.length + 1)))] ⟨1, i, k, v, n.Log.length, true, x, 0, [], (max n.Commit (agreedN n.Oks i (n.Log.length + 1)))⟩ := kMail_ownmk (⟨1, i, k, v, n.Log.length, true, x, 0, [], (max n.Commit (agreedN n.Oks i (n.Log.length + 1)))⟩ : SMail) (h13 := ownS_nil _ _ _)
          have hl6 := lies_alloc wr #[.int .i64 1, .int .i64 i, .int .i64 k, .int .i64 v, .int .i64 (n.Log.length : Int), .bool true, .int .i64 x.Client, .int .i64 x.Seq, .int .i64 x.Op.Kind, .int .i64 x.Op.Vol, .int .i64 x.Op.At, .int .i64 x.Op.Value, .int .i64 0, .slice none 0 0, .int .i64 (max n.Commit (agreedN n.Oks i (n.Log.length + 1)))] 51
          have OW := Lib.hid (OwnS.keep (w' := wr.alloc (.cells #[.int .i64 1, .int .i64 i, .int .i64 k, .int .i64 v, .int .i64 (n.Log.length : Int), .bool true, .int .i64 x.Client, .int .i64 x.Seq, .int .i64 x.Op.Kind, .int .i64 x.Op.Vol, .int .i64 x.Op.At, .int .i64 x.Op.Value, .int .i64 0, .slice none 0 0, .int .i64 (max n.Commit (agreedN n.Oks i (n.Log.length + 1)))] 51)) ow (fun y hy => Below.heap_alloc wr (.cells #[.int .i64 1, .int .i64 i, .int .i64 k, .int .i64 v, .int .i64 (n.Log.length : Int), .bool true, .int .i64 x.Client, .int .i64 x.Seq, .int .i64 x.Op.Kind, .int .i64 x.Op.Vol, .int .i64 x.Op.At, .int .i64 x.Op.Value, .int .i64 0, .slice none 0 0, .int .i64 (max n.Commit (agreedN n.Oks i (n.Log.length + 1)))] 51) _ (hin y hy).2))
          have y7 := rBr.below (below_alloc (Below.refl _ _) (.cells #[.int .i64 1, .int .i64 i, .int .i64 k, .int .i64 v, .int .i64 (n.Log.length : Int), .bool true, .int .i64 x.Client, .int .i64 x.Seq, .int .i64 x.Op.Kind, .int .i64 x.Op.Vol, .int .i64 x.Op.At, .int .i64 x.Op.Value, .int .i64 0, .slice none 0 0, .int .i64 (max n.Commit (agreedN n.Oks i (n.Log.length + 1)))] 51))
          have nrq : w3.heap.size ∉ fq := fun h => by have := hfr _ h; omega
          clear ow hys
          go_wp2_with (refine wpList_app (d := kMail) (zs := [⟨1, i, k, v, n.Log.length, true, x, 0, [], (max n.Commit (agreedN n.Oks i (n.Log.length + 1)))⟩]) (ys := ys) (fp := fq) (fs := []) (B := w2.heap.size) rfl _ _ 31 51 rfl (by kernel_rfl) (by kernel_rfl) rfl rfl OW.out ndq (Src.ofSlice (P := Tryz.prog) (e' := 51) _ (by kernel_rfl) ⟨wr.heap.size, 0, none⟩ 1 1 _ rfl hl6 (kMail.rd_one (kMail.own_rd oL))) (OwnL.single oL) List.nodup_nil (fun _ _ hm => by cases hm) (by simp; omega) (by rw [Deep.nblk_alloc]; omega) ?_; intro v' w' fp2 hgr; obtain ⟨r1, r2, r3, r4⟩ := hgr; obtain ⟨A2, cA2, rfl, _⟩ := r1.form; have yA := y7.keep (w' := w') (r3.block _ y7.lt nrq); have qA := yA.cell (j := 11) rfl; have fA := yA.frozen 11)
          have hfr2 : ∀ y ∈ fp2, V.heap.size ≤ y := fun y hy => by
            rcases r4 y hy with h | h | h
            · exact hfr y h
            · cases h
            · rw [Deep.nblk_alloc] at h; omega
          have hr2 : w3.heap.size ∉ fp2 := fun h => by have := hfr2 _ h; omega
          rw [show (ys ++ [(⟨1, i, k, v, n.Log.length, true, x, 0, [], (max n.Commit (agreedN n.Oks i (n.Log.length + 1)))⟩ : SMail)]).length = ys.length + 1 by simp, ← HF.out, ← HSU.out] at r1
          have hT : Turn [w3.heap.size] V w' := Turn.fresh (ht.trans (Turn.of_below (below_alloc (Below.refl _ _) (.cells #[.int .i64 1, .int .i64 i, .int .i64 k, .int .i64 v, .int .i64 (n.Log.length : Int), .bool true, .int .i64 x.Client, .int .i64 x.Seq, .int .i64 x.Op.Kind, .int .i64 x.Op.Vol, .int .i64 x.Op.At, .int .i64 x.Op.Value, .int .i64 0, .slice none 0 0, .int .i64 (max n.Commit (agreedN n.Oks i (n.Log.length + 1)))] 51)))) r3 (fun y hy => .inr (hfr y hy))
          exact ⟨⟨k + 1, hlt, by go_num, .slice A2 (ys.length + 1) cA2, fp2, OwnS.turn r1 ((Turn.refl [w3.heap.size] w').set (p := ⟨w3.heap.size, 11, none⟩) (by simp) _) (fun y hy hm => hr2 (by simp at hm; exact hm ▸ hy)), r2, yA.set0 11 _, hT.set (p := ⟨w3.heap.size, 11, none⟩) (by simp) _, hfr2⟩, by simp [intOf]; omega⟩
      · have hk' : k = s := by omega
        subst hk'
        obtain ⟨AS, cS, rfl, _⟩ := ow.form
        have zBr := zB.turn ht (by simp; omega)
        have p5 := OwnS.turn o5 ht (fun y hy h => by simp at h; exact hrp (h ▸ hy))
        have p7 := OwnS.turn o7 ht (fun y hy h => by simp at h; have := k7 y hy; omega)
        have p8 := OwnS.turn o8 ht (fun y hy h => by simp at h; have := k8 y hy; omega)
        have p9 := OwnS.turn o9 ht (fun y hy h => by simp at h; have := k9 y hy; omega)
        have bwr : Below w.heap.size w wr := bw6.trans (ht.below (by simp; omega) (by omega))
        have hF : addM (addR n x i) i k v = allTo (fun j => prepM i v (max n.Commit (agreedN n.Oks i (n.Log.length + 1))) (n.Log ++ [x]) j (n.Log.length : Nat)) i k := by simp [addM, addR]
        have HF := Lib.hid hF
        clear hF
        generalize hys : allTo (fun j => prepM i v (max n.Commit (agreedN n.Oks i (n.Log.length + 1))) (n.Log ++ [x]) j (n.Log.length : Nat)) i k = ys at ow hlen rBr
        have HYS := Lib.hid hys
        have m5 := p5.in
        clear hys n0 n2 o5 o7 o8 o9
        have u0 := rBr.cell (j := 0) rfl
        have r0 := zBr.cell (j := 0) rfl
        have y0 := zBr.frozen 0
        have u1 := rBr.cell (j := 1) rfl
        have rr1 := zBr.cell (j := 1) rfl
        have y1 := zBr.frozen 1
        have u2 := rBr.cell (j := 2) rfl
        have rr2 := zBr.cell (j := 2) rfl
        have y2 := zBr.frozen 2
        have u3 := rBr.cell (j := 3) rfl
        have r3 := zBr.cell (j := 3) rfl
        have y3 := zBr.frozen 3
        have u4 := rBr.cell (j := 4) rfl
        have r4' := zBr.cell (j := 4) rfl
        have y4 := zBr.frozen 4
        have u5 := rBr.cell (j := 5) rfl
        have r5 := zBr.cell (j := 5) rfl
        have y5 := zBr.frozen 5
        have u6 := rBr.cell (j := 6) rfl
        have r6 := zBr.cell (j := 6) rfl
        have y6 := zBr.frozen 6
        have u7 := rBr.cell (j := 7) rfl
        have r7 := zBr.cell (j := 7) rfl
        have y7 := zBr.frozen 7
        have u8 := rBr.cell (j := 8) rfl
        have r8 := zBr.cell (j := 8) rfl
        have y8 := zBr.frozen 8
        have u9 := rBr.cell (j := 9) rfl
        have r9 := zBr.cell (j := 9) rfl
        have y9 := zBr.frozen 9
        have u10 := rBr.cell (j := 10) rfl
        have r10 := zBr.cell (j := 10) rfl
        have y10 := zBr.frozen 10
        have u11 := rBr.cell (j := 11) rfl
        have r11 := zBr.cell (j := 11) rfl
        have y11 := zBr.frozen 11
        go_wp2_with fail
        have hrest : ∀ z ∈ f7 ++ (f8 ++ f9), z < w3.heap.size := fun z hz => by
          simp only [List.mem_append] at hz
          rcases hz with h | h | h
          · exact (k7 z h).2
          · exact (k8 z h).2
          · exact (k9 z h).2
        have ndn : (fp' ++ (f7 ++ (f8 ++ f9))).Nodup := List.nodup_append.2 ⟨r2, ndr, fun y hy z hz e => by
          rcases hfr' y hy with h | h
          · exact d5r y h z hz e
          · have := hrest z hz; omega⟩
        have ndall : (fp' ++ (f7 ++ (f8 ++ (f9 ++ fq)))).Nodup := by
          have h1 : ((fp' ++ (f7 ++ (f8 ++ f9))) ++ fq).Nodup := List.nodup_append.2 ⟨ndn, ndq, fun y hy z hz e => by
            have := hfr z hz
            rcases List.mem_append.1 hy with h | h
            · have := fpV y h; omega
            · have := hrest y h; omega⟩
          simpa only [List.append_assoc] using h1
        refine bodyPost_ret (v := .agg #[.int .i64 0, .int .i64 n.Id, .int .i64 n.Size, .int .i64 n.View, .bool n.Normal, .int .i64 n.Last, .slice AA (n.Log.length + 1) cA, .int .i64 (max n.Commit (agreedN n.Oks i (n.Log.length + 1))), .slice B7 n.Oks.length d7, .slice B8 n.Asks.length d8, .slice B9 n.Doers.length d9, .slice AS ys.length cS]) (by simp [results, Tryz.results190, go_sem, r0, rr1, rr2, r3, r4', r5, r6, r7, r8, r9, r10, r11]) rfl ?_
        rw [HF.out, HYS.out]
        refine ⟨AA, cA, B7, d7, B8, d8, B9, d9, AS, cS, fp', f7, f8, f9, fq, ?_, ⟨?_, ?_, ?_, ?_, ?_, ndall⟩, ?_⟩
        · simp [addR]
        · show OwnS kEntry 49 w.heap.size _ fp' (.slice AA (n.Log ++ [x]).length cA) (n.Log ++ [x])
          rw [show (n.Log ++ [x]).length = n.Log.length + 1 by simp]
          refine OwnS.past (lo := w.heap.size + 3) (lo2 := w.heap.size) (w := wr) (p5.lift (B' := w.heap.size + 3) (fun y hy => by have := (m5 y hy).1; omega)) ?_ (by omega) (by omega)
          repeat (first | (with_reducible exact Past.refl _ _) | (with_reducible refine Past.set ?_ (by omega) _))
        · refine OwnS.past (lo := w.heap.size + 3) (lo2 := w.heap.size) (w := wr) (p7.lift (B' := w.heap.size + 3) (fun y hy => by have := (k7 y hy).1; omega)) ?_ (by omega) (by omega)
          repeat (first | (with_reducible exact Past.refl _ _) | (with_reducible refine Past.set ?_ (by omega) _))
        · refine OwnS.past (lo := w.heap.size + 3) (lo2 := w.heap.size) (w := wr) (p8.lift (B' := w.heap.size + 3) (fun y hy => by have := (k8 y hy).1; omega)) ?_ (by omega) (by omega)
          repeat (first | (with_reducible exact Past.refl _ _) | (with_reducible refine Past.set ?_ (by omega) _))
        · refine OwnS.past (lo := w.heap.size + 3) (lo2 := w.heap.size) (w := wr) (p9.lift (B' := w.heap.size + 3) (fun y hy => by have := (k9 y hy).1; omega)) ?_ (by omega) (by omega)
          repeat (first | (with_reducible exact Past.refl _ _) | (with_reducible refine Past.set ?_ (by omega) _))
        · refine OwnS.past (lo := w.heap.size + 3) (lo2 := w.heap.size) (w := wr) (ow.lift (B' := w.heap.size + 3) (fun y hy => by have := hfr y hy; omega)) ?_ (by omega) (by omega)
          repeat (first | (with_reducible exact Past.refl _ _) | (with_reducible refine Past.set ?_ (by omega) _))
        · repeat (first | (with_reducible assumption) | (with_reducible exact Below.refl _ _) | (with_reducible apply below_alloc) | (with_reducible apply below_drewN) | (with_reducible apply Below.drew) | (with_reducible refine below_set ?_ (by dsimp only; omega) _) | (with_reducible refine below_trans ?_ (by assumption)))
end Go.Proofs.YtdjfehjddfbbjaaGreat
