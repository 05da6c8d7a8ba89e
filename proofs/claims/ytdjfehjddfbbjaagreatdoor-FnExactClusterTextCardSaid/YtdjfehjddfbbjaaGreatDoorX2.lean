/- The text of a cluster: the reference's l16Cluster (own work). -/
import Derived.Test.YtdjfehjddfbbjaaGreatDoorX1
import Derived.Test.YtdjfehjddfbbjaaGreatDoorF2
import Derived.Deep.RegionHeld3
set_option linter.unusedVariables false
set_option linter.unusedSimpArgs false
namespace Go.Proofs.YtdjfehjddfbbjaaGreatDoor
open Go Go.RowKit Mk
theorem rdS_two {W : World} {g : Nat} {a b : Nat} (h : Blk W g 2 [.int .i64 a, .int .i64 b]) : RdS kInt W (some ⟨g, 0, none⟩) 2 ([a, b].map (fun (n : Nat) => (n : Int))) := rdS_blkI (xs := [(a : Int), (b : Int)]) h rfl (by simp)
theorem blk_below {w w' : World} {g : Nat} {t : TypeId} {l : List Value} (h : Blk w g t l) (hb : Below w.heap.size w w') : Blk w' g t l := h.below hb
set_option maxRecDepth 100000 in
set_option maxHeartbeats 8000000 in
theorem l16Cluster_c (c : SCluster) (p : Addr) (w : World) (h : At kCluster w p c) (hz : clusF c = 0) :
    Calls Tryz.prog 14 #[.pointer (some p)] w fun e w' => e = .returned (.string (cluB c)) ∧ Below w.heap.size w w' := by
  obtain ⟨A0, c0, A1, c1, A2, c2, hh⟩ := atCluster h
  obtain ⟨f0, f1, f2, h0, h1, h2⟩ := hh
  have hl0 := h0.le63
  have hn5 := clusF_le5 hz
  obtain ⟨hm9, hs9⟩ := clusF_txt hz
  have htx : ∀ n ∈ c.Nodes, TxtOk n := fun n hn => repF_txt (clusF_nodes hz n hn)
  clear h h1 h2 hz
  have HH0 := Lib.hid f0
  have HH1 := Lib.hid f1
  have HH2 := Lib.hid f2
  clear f0 f1 f2
  go_enter Tryz.func14, Tryz.ntmps14
  go_wp2_with fail
  go_loopw [3, 4] (fun t i W => ∃ k : Nat, k ≤ c.Nodes.length ∧ i = .int .i64 k ∧ ∃ acc : ByteArray, t = .string acc ∧ acc = nodesB ByteArray.empty (c.Nodes.take k) ∧ acc.size ≤ 6000 * k ∧ Below w.heap.size w W) (fun _ i _ => c.Nodes.length - (intOf i).toNat)
  case atStart => exact ⟨0, Nat.zero_le _, rfl, _, rfl, rfl, by decide, Below.refl _ _⟩
  case round =>
    obtain ⟨k, hk, rfl, acc, rfl, hacc, hsz, hb⟩ := hrel
    have f0 := cell_below hb HH0.out
    by_cases hlt : k < c.Nodes.length
    · have hlt' : (k : Int) < (c.Nodes.length : Int) := by omega
      have happ := nodesB_app ByteArray.empty (c.Nodes.take k) c.Nodes[k]
      rw [← List.take_succ_eq_append_getElem hlt, ← hacc] at happ
      obtain ⟨t1, t2, t3, t4, t5, t6, t7⟩ := htx _ (List.getElem_mem hlt)
      obtain ⟨a, ea, hx⟩ := (h0.below hb).at_ hlt
      subst ea
      simp only [show kReplica.sz = 10 from rfl] at hx
      clear htx h0
      generalize c.Nodes[k] = n at hx happ t1 t2 t3 t4 t5 t6 t7
      have hnz := nodeB_size t2 t4 t5 t7
      obtain ⟨B5, d5, B7, d7, B8, d8, B9, d9, hq⟩ := atReplica hx
      obtain ⟨q0, q1, q2, q3, q4, q5, q6, q7, q8, q9, g5, g7, g8, g9⟩ := hq
      clear hx g5 g7 g8 g9 q1 q4 q7 q8 q9
      obtain ⟨I, hI⟩ := Int.eq_ofNat_of_zero_le t1
      obtain ⟨V', hV⟩ := Int.eq_ofNat_of_zero_le t3
      obtain ⟨C, hC⟩ := Int.eq_ofNat_of_zero_le t6
      have hnb : nodeB n = lineB (lineB nodeW [I, V'] ++ howS n.Normal) [n.Log.length, C] := by unfold nodeB; rw [hI, hV, hC]; rfl
      rw [hI] at q0 t2
      rw [hV] at q2 t4
      rw [hC] at q6 t7
      have hI9 : I ≤ 1000 := by omega
      have hV9 : V' ≤ 1000 := by omega
      have hC9 : C ≤ 1000 := by omega
      have hls := lineB_size nodeW [I, V'] (by simp; omega)
      have hW4 : nodeW.size = 4 := by decide
      simp only [List.length_cons, List.length_nil] at hls
      have hw9 : (howS n.Normal).size ≤ 9 := by cases n.Normal <;> decide
      have hls2 : (lineB nodeW [I, V'] ++ howS n.Normal).size ≤ 100000 := by rw [ByteArray.size_append]; omega
      have hl1 : ∀ (g : Nat) (W : World), Blk W g 2 [.int .i64 I, .int .i64 V'] → Calls Tryz.prog 29 #[.string ⟨#[110, 111, 100, 101]⟩, .slice (some ⟨g, 0, none⟩) 2 2] W fun r w' => r = .returned (.string (lineB nodeW [I, V'])) ∧ Below W.heap.size W w' := fun g W hg => l16Line_c nodeW [I, V'] (some ⟨g, 0, none⟩) 2 W (rdS_two hg) (by simp) (by simp; omega) (by omega)
      have hl2 : ∀ (g : Nat) (W : World), Blk W g 2 [.int .i64 n.Log.length, .int .i64 C] → Calls Tryz.prog 29 #[.string (lineB nodeW [I, V'] ++ howS n.Normal), .slice (some ⟨g, 0, none⟩) 2 2] W fun r w' => r = .returned (.string (nodeB n)) ∧ Below W.heap.size W w' := fun g W hg => by
        rw [hnb]
        exact l16Line_c (lineB nodeW [I, V'] ++ howS n.Normal) [n.Log.length, C] (some ⟨g, 0, none⟩) 2 W (rdS_two hg) (by simp) (by simp; omega) hls2
      have H1 := Lib.hid hl1
      have H2 := Lib.hid hl2
      have HA := Lib.hid happ
      have hs1 : ¬ (9223372036854775807 : Nat) < (lineB nodeW [I, V']).size + (howS n.Normal).size := by omega
      have hs2 : ¬ (9223372036854775807 : Nat) < acc.size + (nodeB n).size := by omega
      have hs3 : ¬ (9223372036854775807 : Nat) < acc.size + (nodeB n).size + 1 := by omega
      have hsz2 : (acc ++ nodeB n ++ nlB).size ≤ 6000 * (k + 1) := by
        rw [ByteArray.size_append, ByteArray.size_append, show nlB.size = 1 from rfl]; omega
      have HSZ := Lib.hid hsz2
      generalize hN : n.Normal = N at q3 H2 hs1
      have hv1 : ∀ x y : Value, Blk (wr.alloc (.cells #[x, y] 2)).drew wr.heap.size 2 [x, y] := fun x y => Blk.keep (blk_alloc wr [x, y] 2) rfl
      have hv2 : ∀ (o : Obj) (x y : Value), Blk ((wr.alloc o).alloc (.cells #[x, y] 2)).drew (wr.heap.size + 1) 2 [x, y] := fun o x y => Blk.keep (blk_alloc1 wr o [x, y] 2) rfl
      have hv3 : ∀ (o : Obj) (x y : Value), Blk ((wr.alloc (.cells #[x, y] 2)).alloc o).drew wr.heap.size 2 [x, y] := fun o x y => Blk.keep ((blk_alloc wr [x, y] 2).below (below_alloc (Below.refl _ _) o)) rfl
      clear happ hacc hnz t1 t2 t3 t4 t5 t6 t7 hI hV hC hnb hls hw9 hls2 hl1 hl2 hsz2 hW4 hN
      generalize lineB nodeW [I, V'] = L1 at H1 H2 hs1
      generalize nodeB n = L2 at H2 HA HSZ hs2 hs3
      cases N with
      | true =>
        rw [show howS true = (⟨#[32, 110, 111, 114, 109, 97, 108]⟩ : ByteArray) by decide] at H2 hs1
        rw [show (⟨#[32, 110, 111, 114, 109, 97, 108]⟩ : ByteArray).size = 7 from rfl] at hs1
        go_upto_region 9 with fail
        go_region_held3 (fun V => V.cell? (a.add (k * 10)) = some (.int .i64 (I : Int)) ∧ V.cell? ⟨(a.add (k * 10)).block, (a.add (k * 10)).off + 2, none⟩ = some (.int .i64 (V' : Int)) ∧ V.cell? ⟨(a.add (k * 10)).block, (a.add (k * 10)).off + 5, none⟩ = some (.slice B5 n.Log.length d5) ∧ V.cell? ⟨(a.add (k * 10)).block, (a.add (k * 10)).off + 6, none⟩ = some (.int .i64 (C : Int))) (first | (with_reducible exact ⟨q0, q2, q5, q6⟩) | (refine ⟨cell_below (show Below wr.heap.size wr _ from ?_) q0, cell_below (show Below wr.heap.size wr _ from ?_) q2, cell_below (show Below wr.heap.size wr _ from ?_) q5, cell_below (show Below wr.heap.size wr _ from ?_) q6⟩ <;> ((repeat (first | (with_reducible assumption) | (with_reducible exact Below.refl _ _) | (with_reducible apply below_alloc) | (with_reducible apply below_drewN) | (with_reducible apply Below.drew) | (with_reducible refine below_set ?_ (by dsimp only; omega) _) | (with_reducible refine below_trans ?_ (by assumption)))); done)) | go_keep) (first | (go_at_call 29; (with_reducible refine (H1.out _ _ ?_).mono ?_); (first | exact hv1 _ _ | exact hv2 _ _ _ | exact hv3 _ _ _); rintro e wl ⟨rfl, hbl⟩) | (go_at_call 29; (with_reducible refine (H2.out _ _ ?_).mono ?_); (first | exact blk_alloc wl _ _ | exact Blk.below (hv2 _ _ _) hbl | exact Blk.below (hv3 _ _ _) hbl); rintro e wm ⟨rfl, hbm⟩))
        all_goals (go_wp2_with fail)
        all_goals (exact ⟨⟨k + 1, hlt, by go_num, _, rfl, HA.out.symm, HSZ.out, by repeat (first | (with_reducible assumption) | (with_reducible exact Below.refl _ _) | (with_reducible apply below_alloc) | (with_reducible apply below_drewN) | (with_reducible apply Below.drew) | (with_reducible refine below_set ?_ (by dsimp only; omega) _) | (with_reducible refine below_trans ?_ (by assumption)))⟩, by simp [intOf]; omega⟩)
      | false =>
        rw [show howS false = (⟨#[32, 99, 104, 97, 110, 103, 105, 110, 103]⟩ : ByteArray) by decide] at H2 hs1
        rw [show (⟨#[32, 99, 104, 97, 110, 103, 105, 110, 103]⟩ : ByteArray).size = 9 from rfl] at hs1
        go_upto_region 9 with fail
        go_region_held3 (fun V => V.cell? (a.add (k * 10)) = some (.int .i64 (I : Int)) ∧ V.cell? ⟨(a.add (k * 10)).block, (a.add (k * 10)).off + 2, none⟩ = some (.int .i64 (V' : Int)) ∧ V.cell? ⟨(a.add (k * 10)).block, (a.add (k * 10)).off + 5, none⟩ = some (.slice B5 n.Log.length d5) ∧ V.cell? ⟨(a.add (k * 10)).block, (a.add (k * 10)).off + 6, none⟩ = some (.int .i64 (C : Int))) (first | (with_reducible exact ⟨q0, q2, q5, q6⟩) | (refine ⟨cell_below (show Below wr.heap.size wr _ from ?_) q0, cell_below (show Below wr.heap.size wr _ from ?_) q2, cell_below (show Below wr.heap.size wr _ from ?_) q5, cell_below (show Below wr.heap.size wr _ from ?_) q6⟩ <;> ((repeat (first | (with_reducible assumption) | (with_reducible exact Below.refl _ _) | (with_reducible apply below_alloc) | (with_reducible apply below_drewN) | (with_reducible apply Below.drew) | (with_reducible refine below_set ?_ (by dsimp only; omega) _) | (with_reducible refine below_trans ?_ (by assumption)))); done)) | go_keep) (first | (go_at_call 29; (with_reducible refine (H1.out _ _ ?_).mono ?_); (first | exact hv1 _ _ | exact hv2 _ _ _ | exact hv3 _ _ _); rintro e wl ⟨rfl, hbl⟩) | (go_at_call 29; (with_reducible refine (H2.out _ _ ?_).mono ?_); (first | exact blk_alloc wl _ _ | exact Blk.below (hv2 _ _ _) hbl | exact Blk.below (hv3 _ _ _) hbl); rintro e wm ⟨rfl, hbm⟩))
        all_goals (go_wp2_with fail)
        all_goals (exact ⟨⟨k + 1, hlt, by go_num, _, rfl, HA.out.symm, HSZ.out, by repeat (first | (with_reducible assumption) | (with_reducible exact Below.refl _ _) | (with_reducible apply below_alloc) | (with_reducible apply below_drewN) | (with_reducible apply Below.drew) | (with_reducible refine below_set ?_ (by dsimp only; omega) _) | (with_reducible refine below_trans ?_ (by assumption)))⟩, by simp [intOf]; omega⟩)
    · have hk' : k = c.Nodes.length := by omega
      subst hk'
      rw [List.take_length] at hacc
      have f1 := cell_below hb HH1.out
      have f2 := cell_below hb HH2.out
      have hls := lineB_size mailsW [c.Mails.length, c.Sealed.length] (by simp; omega)
      have hW5 : mailsW.size = 5 := by decide
      simp only [List.length_cons, List.length_nil] at hls
      have hcl : cluB c = acc ++ lineB mailsW [c.Mails.length, c.Sealed.length] ++ nlB := by unfold cluB lastB; rw [← hacc]
      have HC := Lib.hid hcl
      have hl1 : ∀ (g : Nat) (W : World), Blk W g 2 [.int .i64 c.Mails.length, .int .i64 c.Sealed.length] → Calls Tryz.prog 29 #[.string ⟨#[109, 97, 105, 108, 115]⟩, .slice (some ⟨g, 0, none⟩) 2 2] W fun r w' => r = .returned (.string (lineB mailsW [c.Mails.length, c.Sealed.length])) ∧ Below W.heap.size W w' := fun g W hg => l16Line_c mailsW [c.Mails.length, c.Sealed.length] (some ⟨g, 0, none⟩) 2 W (rdS_two hg) (by simp) (by simp; omega) (by omega)
      have H1 := Lib.hid hl1
      have hs2 : ¬ (9223372036854775807 : Nat) < acc.size + (lineB mailsW [c.Mails.length, c.Sealed.length]).size := by omega
      have hs3 : ¬ (9223372036854775807 : Nat) < acc.size + (lineB mailsW [c.Mails.length, c.Sealed.length]).size + 1 := by omega
      have hv1 : ∀ x y : Value, Blk (wr.alloc (.cells #[x, y] 2)).drew wr.heap.size 2 [x, y] := fun x y => Blk.keep (blk_alloc wr [x, y] 2) rfl
      clear hl1 hcl hacc hls hW5
      generalize lineB mailsW [c.Mails.length, c.Sealed.length] = L1 at H1 HC hs2 hs3
      go_upto_region 10 with fail
      go_region_held3 (fun V => V.cell? ⟨p.block, p.off + 1, none⟩ = some (.slice A1 c.Mails.length c1) ∧ V.cell? ⟨p.block, p.off + 2, none⟩ = some (.slice A2 c.Sealed.length c2)) (first | (with_reducible exact ⟨f1, f2⟩) | (refine ⟨cell_below (show Below wr.heap.size wr _ from ?_) f1, cell_below (show Below wr.heap.size wr _ from ?_) f2⟩ <;> ((repeat (first | (with_reducible assumption) | (with_reducible exact Below.refl _ _) | (with_reducible apply below_alloc) | (with_reducible apply below_drewN) | (with_reducible apply Below.drew) | (with_reducible refine below_set ?_ (by dsimp only; omega) _) | (with_reducible refine below_trans ?_ (by assumption)))); done)) | go_keep) (first | (go_at_call 29; refine (H1.out _ _ (hv1 _ _)).mono ?_; rintro e wl ⟨rfl, hbl⟩))
      all_goals (go_wp2_with fail)
      all_goals (go_ret)
      all_goals (exact ⟨by rw [HC.out]; rfl, by repeat (first | (with_reducible assumption) | (with_reducible exact Below.refl _ _) | (with_reducible apply below_alloc) | (with_reducible apply below_drewN) | (with_reducible apply Below.drew) | (with_reducible refine below_set ?_ (by dsimp only; omega) _) | (with_reducible refine below_trans ?_ (by assumption)))⟩)
end Go.Proofs.YtdjfehjddfbbjaaGreatDoor
