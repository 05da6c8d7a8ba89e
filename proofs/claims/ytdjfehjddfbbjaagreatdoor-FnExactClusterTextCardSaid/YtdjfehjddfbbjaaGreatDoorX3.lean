/- The text of a cluster: the program's clusterText (own work). -/
import Derived.Test.YtdjfehjddfbbjaaGreatDoorX1
import Derived.Test.YtdjfehjddfbbjaaGreatDoorF2
import Derived.Deep.RegionHeld3
set_option linter.unusedVariables false
set_option linter.unusedSimpArgs false
namespace Go.Proofs.YtdjfehjddfbbjaaGreatDoor
open Go Go.RowKit Mk
set_option maxRecDepth 100000 in
set_option maxHeartbeats 8000000 in
theorem clusterText_c (c : SCluster) (A0 : Option Addr) (c0 : Nat) (A1 : Option Addr) (c1 : Nat) (A2 : Option Addr) (c2 : Nat) (w : World) (h0 : RdS kReplica w A0 c0 c.Nodes) (h1 : RdS kMail w A1 c1 c.Mails) (h2 : RdS kEntry w A2 c2 c.Sealed) (hz : clusF c = 0) (htab : Lib.TabIs Tryz.prog w "internal/strconv.uint64pow10" .u64 Lib.pow10Tab) :
    Calls Tryz.prog 19 #[.agg #[.slice A0 c.Nodes.length c0, .slice A1 c.Mails.length c1, .slice A2 c.Sealed.length c2]] w fun e w' => e = .returned (.string (cluB c)) ∧ Below w.heap.size w w' := by
  have hl0 := h0.le63
  have hn5 := clusF_le5 hz
  obtain ⟨hm9, hs9⟩ := clusF_txt hz
  have htx : ∀ n ∈ c.Nodes, TxtOk n := fun n hn => repF_txt (clusF_nodes hz n hn)
  clear h1 h2 hz
  go_enter Tryz.func19, Tryz.ntmps19
  go_upto_region 1 with fail
  refine at_world (fun W => Blk W w.heap.size 35 [.slice A0 c.Nodes.length c0, .slice A1 c.Mails.length c1, .slice A2 c.Sealed.length c2] ∧ Below w.heap.size w W) ⟨blk_alloc w [.slice A0 c.Nodes.length c0, .slice A1 c.Mails.length c1, .slice A2 c.Sealed.length c2] _, below_alloc (Below.refl _ _) _⟩ ?_
  rintro w1 ⟨zC, b1⟩
  have f0 := zC.cell (j := 0) rfl
  go_wp2_with fail
  clear f0
  replace htab := tab_below htab b1
  replace h0 := h0.below b1
  have HTB := Lib.hid htab
  clear htab
  go_loopw [3, 10] (fun t i W => ∃ k : Nat, k ≤ c.Nodes.length ∧ i = .int .i64 k ∧ ∃ acc : ByteArray, t = .string acc ∧ acc = nodesB ByteArray.empty (c.Nodes.take k) ∧ acc.size ≤ 6000 * k ∧ Below w1.heap.size w1 W) (fun _ i _ => c.Nodes.length - (intOf i).toNat)
  case atStart => exact ⟨0, Nat.zero_le _, rfl, _, rfl, rfl, by decide, Below.refl _ _⟩
  case round =>
    obtain ⟨k, hk, rfl, acc, rfl, hacc, hsz, hb⟩ := hrel
    by_cases hlt : k < c.Nodes.length
    · have hlt' : (k : Int) < (c.Nodes.length : Int) := by omega
      have happ := nodesB_app ByteArray.empty (c.Nodes.take k) c.Nodes[k]
      rw [← List.take_succ_eq_append_getElem hlt, ← hacc] at happ
      obtain ⟨t1, t2, t3, t4, t5, t6, t7⟩ := htx _ (List.getElem_mem hlt)
      obtain ⟨a, ea, hx⟩ := (h0.below hb).at_ hlt
      subst ea
      simp only [show kReplica.sz = 10 from rfl] at hx
      clear htx h0
      generalize c.Nodes[k] = n at hx happ t1 t2 t3 t4 t5 t6 t7
      have hnz := nodeB_size t2 t4 t5 t7
      have hjn := join_node n
      obtain ⟨B5, d5, B7, d7, B8, d8, B9, d9, hq⟩ := atReplica hx
      obtain ⟨q0, q1, q2, q3, q4, q5, q6, q7, q8, q9, g5, g7, g8, g9⟩ := hq
      clear hx g5 g7 g8 g9
      go_upto_region 5 with fail
      refine at_world (fun W => Blk W wr.heap.size 71 [.int .i64 n.Id, .int .i64 n.Size, .int .i64 n.View, .bool n.Normal, .int .i64 n.Last, .slice B5 n.Log.length d5, .int .i64 n.Commit, .slice B7 n.Oks.length d7, .slice B8 n.Asks.length d8, .slice B9 n.Doers.length d9] ∧ Below wr.heap.size wr W) ⟨blk_alloc wr [.int .i64 n.Id, .int .i64 n.Size, .int .i64 n.View, .bool n.Normal, .int .i64 n.Last, .slice B5 n.Log.length d5, .int .i64 n.Commit, .slice B7 n.Oks.length d7, .slice B8 n.Asks.length d8, .slice B9 n.Doers.length d9] _, below_alloc (Below.refl _ _) _⟩ ?_
      rintro W5 ⟨xB, b5⟩
      clear q0 q1 q2 q3 q4 q5 q6 q7 q8 q9
      have x0 := xB.cell (j := 0) rfl
      have x2 := xB.cell (j := 2) rfl
      have x3 := xB.cell (j := 3) rfl
      have x5 := xB.cell (j := 5) rfl
      have x6 := xB.cell (j := 6) rfl
      have b15 := below_trans hb b5
      go_upto_if 15 with fail
      go_cut [6] (fun s U => s = .string (howW n.Normal) ∧ W5 = U)
      case first =>
        cases hN : n.Normal with
        | true =>
          rw [hN] at x3
          go_wp2_with fail
          (try go_meet)
          exact ⟨by rw [hN]; rfl, rfl⟩
        | false =>
          rw [hN] at x3
          go_wp2_with fail
          (try go_meet)
          exact ⟨by rw [hN]; rfl, rfl⟩
      case rest =>
        obtain ⟨rfl, rfl⟩ := hcut
        obtain ⟨I, hI⟩ := Int.eq_ofNat_of_zero_le t1
        obtain ⟨V, hV⟩ := Int.eq_ofNat_of_zero_le t3
        obtain ⟨C, hC⟩ := Int.eq_ofNat_of_zero_le t6
        rw [hI] at x0 t2
        rw [hV] at x2 t4
        rw [hC] at x6 t7
        rw [hI, hV, hC] at hjn
        simp only [Int.toNat_natCast] at hjn
        have HI := Lib.hid (decimal_c I (by omega))
        have HV := Lib.hid (decimal_c V (by omega))
        have HL := Lib.hid (decimal_c n.Log.length t5)
        have HC := Lib.hid (decimal_c C (by omega))
        have htl : ∀ (g : Nat) (U : World), Blk U g 9 [.string nodeW, .string (numS I), .string (numS V), .string (howW n.Normal), .string (numS n.Log.length), .string (numS C)] → Calls Tryz.prog 37 #[.slice (some ⟨g, 0, none⟩) 6 6] U fun e w' => e = .returned (.string (nodeB n ++ nlB)) ∧ Below U.heap.size U w' := fun g U hg => by
          rw [← hjn]
          exact textLine_c [nodeW, numS I, numS V, howW n.Normal, numS n.Log.length, numS C] g U hg (by simp) (by simp) (by rw [hjn]; omega)
        have HTL := Lib.hid htl
        have HA := Lib.hid happ
        have hs2 : ¬ (9223372036854775807 : Nat) < acc.size + (nodeB n ++ nlB).size := by rw [ByteArray.size_append, show nlB.size = 1 from rfl]; omega
        have hsz2 : (acc ++ (nodeB n ++ nlB)).size ≤ 6000 * (k + 1) := by
          rw [ByteArray.size_append, ByteArray.size_append, show nlB.size = 1 from rfl]; omega
        have HSZ := Lib.hid hsz2
        have has : nodesB ByteArray.empty (List.take (k + 1) c.Nodes) = acc ++ (nodeB n ++ nlB) := by rw [happ, ByteArray.append_assoc]
        replace HA := Lib.hid has
        clear happ has hacc hnz hjn htl hsz2 t1 t2 t3 t4 t5 t6 t7 hI hV hC x3 xB
        generalize nodeB n ++ nlB = L2 at HTL HA HSZ hs2
        generalize howW n.Normal = hw at HTL
        go_upto_region 8 with fail
        go_region_held3 (fun U => U.cell? ⟨wr.heap.size, 0, none⟩ = some (.int .i64 (I : Int)) ∧ U.cell? ⟨wr.heap.size, 2, none⟩ = some (.int .i64 (V : Int)) ∧ U.cell? ⟨wr.heap.size, 5, none⟩ = some (.slice B5 n.Log.length d5) ∧ U.cell? ⟨wr.heap.size, 6, none⟩ = some (.int .i64 (C : Int))) (first | (with_reducible exact ⟨x0, x2, x5, x6⟩) | (refine ⟨cell_below (show Below W5.heap.size W5 _ from ?_) x0, cell_below (show Below W5.heap.size W5 _ from ?_) x2, cell_below (show Below W5.heap.size W5 _ from ?_) x5, cell_below (show Below W5.heap.size W5 _ from ?_) x6⟩ <;> ((repeat (first | (with_reducible assumption) | (with_reducible exact Below.refl _ _) | (with_reducible apply below_alloc) | (with_reducible apply below_drewN) | (with_reducible apply Below.drew) | (with_reducible refine below_set ?_ (by dsimp only; omega) _) | (with_reducible refine below_trans ?_ (by assumption)))); done)) | go_keep) (first | (go_at_call 38; (first | (with_reducible refine (HI.out _ (tab_below HTB.out ?_)).mono ?_) | (with_reducible refine (HV.out _ (tab_below HTB.out ?_)).mono ?_) | (with_reducible refine (HL.out _ (tab_below HTB.out ?_)).mono ?_) | (with_reducible refine (HC.out _ (tab_below HTB.out ?_)).mono ?_)); (focus ((repeat (first | (with_reducible assumption) | (with_reducible exact Below.refl _ _) | (with_reducible apply below_alloc) | (with_reducible apply below_drewN) | (with_reducible apply Below.drew) | (with_reducible refine below_set ?_ (by dsimp only; omega) _) | (with_reducible refine below_trans ?_ (by assumption)))); done)); rintro e wd ⟨rfl, hbd⟩) | (go_at_call 39; refine (many_c _ _ _ _).mono ?_; rintro e wq ⟨rfl, rfl⟩) | (go_at_call 37; refine (HTL.out _ _ ?_).mono ?_; (focus (exact blk_alloc _ _ _)); rintro e wt ⟨rfl, hbt⟩))
        all_goals (go_wp2_with fail)
        all_goals (exact ⟨⟨k + 1, hlt, by go_num, _, rfl, HA.out.symm, HSZ.out, by repeat (first | (with_reducible assumption) | (with_reducible exact Below.refl _ _) | (with_reducible apply below_alloc) | (with_reducible apply below_drewN) | (with_reducible apply Below.drew) | (with_reducible refine below_set ?_ (by dsimp only; omega) _) | (with_reducible refine below_trans ?_ (by assumption)))⟩, by simp [intOf]; omega⟩)
    · have hk' : k = c.Nodes.length := by omega
      subst hk'
      rw [List.take_length] at hacc
      have zD := zC.below hb
      have f1 := zD.cell (j := 1) rfl
      have f2 := zD.cell (j := 2) rfl
      have hls := lineB_size mailsW [c.Mails.length, c.Sealed.length] (by simp; omega)
      have hW5 : mailsW.size = 5 := by decide
      simp only [List.length_cons, List.length_nil] at hls
      have hjn := join_last c.Mails.length c.Sealed.length
      have HL := Lib.hid (decimal_c c.Mails.length hm9)
      have HC := Lib.hid (decimal_c c.Sealed.length hs9)
      have htl : ∀ (g : Nat) (U : World), Blk U g 9 [.string mailsW, .string (numS c.Mails.length), .string (numS c.Sealed.length)] → Calls Tryz.prog 37 #[.slice (some ⟨g, 0, none⟩) 3 3] U fun e w' => e = .returned (.string (lastB c ++ nlB)) ∧ Below U.heap.size U w' := fun g U hg => by
        unfold lastB
        rw [← hjn]
        exact textLine_c [mailsW, numS c.Mails.length, numS c.Sealed.length] g U hg (by simp) (by simp) (by rw [hjn]; omega)
      have HTL := Lib.hid htl
      have hs2 : ¬ (9223372036854775807 : Nat) < acc.size + (lastB c ++ nlB).size := by unfold lastB; rw [ByteArray.size_append, show nlB.size = 1 from rfl]; omega
      have hcl : cluB c = acc ++ (lastB c ++ nlB) := by unfold cluB; rw [← hacc, ByteArray.append_assoc]
      have HX := Lib.hid hcl
      clear hacc hls hW5 hjn htl hcl htx h0
      generalize lastB c ++ nlB = L2 at HTL HX hs2
      go_upto_region 10 with fail
      go_region_held3 (fun U => U.cell? ⟨w.heap.size, 1, none⟩ = some (.slice A1 c.Mails.length c1) ∧ U.cell? ⟨w.heap.size, 2, none⟩ = some (.slice A2 c.Sealed.length c2)) (first | (with_reducible exact ⟨f1, f2⟩) | (refine ⟨cell_below (show Below wr.heap.size wr _ from ?_) f1, cell_below (show Below wr.heap.size wr _ from ?_) f2⟩ <;> ((repeat (first | (with_reducible assumption) | (with_reducible exact Below.refl _ _) | (with_reducible apply below_alloc) | (with_reducible apply below_drewN) | (with_reducible apply Below.drew) | (with_reducible refine below_set ?_ (by dsimp only; omega) _) | (with_reducible refine below_trans ?_ (by assumption)))); done)) | go_keep) (first | (go_at_call 38; (first | (with_reducible refine (HL.out _ (tab_below HTB.out ?_)).mono ?_) | (with_reducible refine (HC.out _ (tab_below HTB.out ?_)).mono ?_)); (focus ((repeat (first | (with_reducible assumption) | (with_reducible exact Below.refl _ _) | (with_reducible apply below_alloc) | (with_reducible apply below_drewN) | (with_reducible apply Below.drew) | (with_reducible refine below_set ?_ (by dsimp only; omega) _) | (with_reducible refine below_trans ?_ (by assumption)))); done)); rintro e wd ⟨rfl, hbd⟩) | (go_at_call 39; refine (many_c _ _ _ _).mono ?_; rintro e wq ⟨rfl, rfl⟩) | (go_at_call 37; refine (HTL.out _ _ ?_).mono ?_; (focus (exact blk_alloc _ _ _)); rintro e wt ⟨rfl, hbt⟩))
      all_goals (go_wp2_with fail)
      all_goals (go_ret)
      all_goals (exact ⟨by rw [HX.out]; rfl, by repeat (first | (with_reducible assumption) | (with_reducible exact Below.refl _ _) | (with_reducible apply below_alloc) | (with_reducible apply below_drewN) | (with_reducible apply Below.drew) | (with_reducible refine below_set ?_ (by dsimp only; omega) _) | (with_reducible refine below_trans ?_ (by assumption)))⟩)
end Go.Proofs.YtdjfehjddfbbjaaGreatDoor
