/- Logs that match: the program's logsMatch. -/
import Derived.Test.YtnbenhkbcodlfaaZF
set_option linter.unusedVariables false
set_option linter.unusedSimpArgs false
namespace Go.Proofs.Ytnbenhkbcodlfaa
open Go Go.RowKit Mk
theorem cell_alloc' {w : World} {a : Addr} {v : Value} (h : w.cell? a = some v) (o : Obj) : (w.alloc o).cell? a = some v := (World.cell?_alloc_lt w o a (World.block_lt_of_cell? w a h)).trans h
set_option maxRecDepth 100000 in
set_option maxHeartbeats 4000000 in
theorem logsMatch_c (c : SCluster) (p : Addr) (w : World) (h : At kCluster w p c) :
    Calls Try.prog 49 #[.pointer (some p)] w fun e w' => e = .returned (.bool (matchB c)) ∧ Below w.heap.size w w' := by
  obtain ⟨A0, c0, A1, c1, A2, c2, hh⟩ := atCluster h
  obtain ⟨f0, f1, f2, h0, h1, h2⟩ := hh
  have hl0 := h0.le63
  have hcc := h0.1
  clear h h1 h2 f1 f2
  go_enter Try.func49, Try.ntmps49
  go_wp2_with fail
  have F0 := Lib.hid f0
  clear f0
  go_loopw [12] (fun i W => ∃ k : Nat, k ≤ c.Nodes.length ∧ i = .int .i64 k ∧ MatchTo c.Nodes k 0 ∧ Below w.heap.size w W) (fun i _ => c.Nodes.length - (intOf i).toNat)
  case atStart => exact ⟨0, Nat.zero_le _, rfl, .start _, Below.refl _ _⟩
  case round =>
    obtain ⟨k, hk, rfl, hm, hb⟩ := hrel
    obtain ⟨wo, hwo⟩ : ∃ x, x = wr := ⟨_, rfl⟩
    subst hwo
    by_cases hlt : k < c.Nodes.length
    · have hlt' : (k : Int) < (c.Nodes.length : Int) := by omega
      obtain ⟨a, ea, hx⟩ := (h0.below hb).at_ hlt
      subst ea
      simp only [show kReplica.sz = 10 from rfl] at hx
      have hn := List.getElem?_eq_getElem hlt
      generalize c.Nodes[k] = n at hx hn
      obtain ⟨B5, d5, B7, d7, B8, d8, B9, d9, hq⟩ := atReplica hx
      obtain ⟨q0, q1, q2, q3, q4, q5, q6, q7, q8, q9, g5, g7, g8, g9⟩ := hq
      have HN := Lib.hid hn
      have fw := cell_alloc' (cell_below hb F0.out) (.cells #[.int .i64 n.Id, .int .i64 n.Size, .int .i64 n.View, .bool n.Normal, .int .i64 n.Last, .slice B5 n.Log.length d5, .int .i64 n.Commit, .slice B7 n.Oks.length d7, .slice B8 n.Asks.length d8, .slice B9 n.Doers.length d9] 63)
      have hk0 : k ≤ c0 := by omega
      have hk1 : (k : Int) ≤ (c0 : Int) := by omega
      clear hn hx
      go_wp2_with fail
      have i0 : InReplica wo n 63 B5 d5 B7 d7 B8 d8 B9 d9 (wo.alloc (.cells #[.int .i64 n.Id, .int .i64 n.Size, .int .i64 n.View, .bool n.Normal, .int .i64 n.Last, .slice B5 n.Log.length d5, .int .i64 n.Commit, .slice B7 n.Oks.length d7, .slice B8 n.Asks.length d8, .slice B9 n.Doers.length d9] 63)) := Below.refl _ _
      clear q0 q1 q2 q3 q4 q5 q6 q7 q8 q9 fw
      go_loopw [24] (fun j W => ∃ l : Nat, l ≤ k ∧ j = .int .i64 l ∧ MatchTo c.Nodes k l ∧ InReplica wo n 63 B5 d5 B7 d7 B8 d8 B9 d9 W) (fun j _ => k - (intOf j).toNat)
      case atStart => exact ⟨0, Nat.zero_le _, rfl, hm, i0⟩
      case round =>
        clear hm i0
        obtain ⟨l, hl, rfl, hm, i2⟩ := hrel
        by_cases hlt2 : l < k
        · have hlt3 : (l : Int) < (k : Int) := by omega
          have hlt4 : l < c.Nodes.length := by omega
          have hbb := below_trans hb i2.below
          obtain ⟨b, eb, hy⟩ := (h0.below hbb).at_ hlt4
          cases eb
          simp only [show kReplica.sz = 10 from rfl] at hy
          have hn2 := List.getElem?_eq_getElem hlt4
          generalize c.Nodes[l] = n2 at hy hn2
          obtain ⟨C5, e5, C7, e7, C8, e8, C9, e9, hq⟩ := atReplica hy
          obtain ⟨r0, r1, r2, r3, r4, r5, r6, r7, r8, r9, s5, s7, s8, s9⟩ := hq
          have HN2 := Lib.hid hn2
          have hsz := i2.size
          simp only [Deep.nblk_alloc] at hsz
          have hs2 : wo.heap.size < wr.heap.size := by omega
          obtain ⟨v0, v1, v2, v3, v4, v5, v6, v7, v8, v9⟩ := i2.seen
          have HB := Lib.hid (fun (W : World) (hb : Below wr.heap.size wr W) => isBeg_c n.Log n2.Log B5 d5 C5 e5 W ((g5.below i2.below).below hb) (s5.below hb))
          have HB2 := Lib.hid (fun (W : World) (hb : Below wr.heap.size wr W) => isBeg_c n2.Log n.Log C5 e5 B5 d5 W (s5.below hb) ((g5.below i2.below).below hb))
          have HM := Lib.hid hm
          clear hn2 hy hm s5 s7 s8 s9 g5 g7 g8 g9 v0 v1 v2 v3 v6 v7 v8 v9 hsz
          cases e1 : (n.Last == n2.Last) with
          | false =>
            go_wp2_with fail
            exact ⟨⟨l + 1, hlt2, by go_num, HM.out.step HN.out HN2.out (by simp [parts, e1]), i2.step (by repeat (first | (with_reducible assumption) | (with_reducible exact Below.refl _ _) | (with_reducible apply below_alloc) | (with_reducible apply below_drewN) | (with_reducible apply Below.drew) | (with_reducible refine below_set ?_ (by dsimp only; omega) _) | (with_reducible refine below_trans ?_ (by assumption))))⟩, by simp [intOf]; omega⟩
          | true =>
            cases e2 : isB n.Log n2.Log with
            | true =>
              rw [e2] at HB
              have HE := Lib.hid (show parts n n2 = false by unfold parts; rw [e1, e2]; rfl)
              clear e2
              go_wp2_with ((with_reducible refine (HB.out _ ?_).mono ?_); (focus repeat (first | (with_reducible assumption) | (with_reducible exact Below.refl _ _) | (with_reducible apply below_alloc) | (with_reducible apply below_drewN) | (with_reducible apply Below.drew) | (with_reducible refine below_set ?_ (by dsimp only; omega) _) | (with_reducible refine below_trans ?_ (by assumption)))); rintro e w2 ⟨rfl, m2, rfl⟩)
              exact ⟨⟨l + 1, hlt2, by go_num, HM.out.step HN.out HN2.out HE.out, i2.step (by repeat (first | (with_reducible assumption) | (with_reducible exact Below.refl _ _) | (with_reducible apply below_alloc) | (with_reducible apply below_drewN) | (with_reducible apply Below.drew) | (with_reducible refine below_set ?_ (by dsimp only; omega) _) | (with_reducible refine below_trans ?_ (by assumption))))⟩, by simp [intOf]; omega⟩
            | false =>
              rw [e2] at HB
              cases e3 : isB n2.Log n.Log with
              | true =>
                rw [e3] at HB2
                go_wp2_with fail
                refine (HB.out _ (by repeat (first | (with_reducible assumption) | (with_reducible exact Below.refl _ _) | (with_reducible apply below_alloc) | (with_reducible apply below_drewN) | (with_reducible apply Below.drew) | (with_reducible refine below_set ?_ (by dsimp only; omega) _) | (with_reducible refine below_trans ?_ (by assumption))))).mono ?_
                rintro e w2 ⟨rfl, m2, rfl⟩
                go_wp2_with fail
                refine (HB2.out _ (by repeat (first | (with_reducible assumption) | (with_reducible exact Below.refl _ _) | (with_reducible apply below_alloc) | (with_reducible apply below_drewN) | (with_reducible apply Below.drew) | (with_reducible refine below_set ?_ (by dsimp only; omega) _) | (with_reducible refine below_trans ?_ (by assumption))))).mono ?_
                rintro e w2 ⟨rfl, m3, rfl⟩
                go_wp2_with fail
                exact ⟨⟨l + 1, hlt2, by go_num, HM.out.step HN.out HN2.out (by simp [parts, e3]), i2.step (by repeat (first | (with_reducible assumption) | (with_reducible exact Below.refl _ _) | (with_reducible apply below_alloc) | (with_reducible apply below_drewN) | (with_reducible apply Below.drew) | (with_reducible refine below_set ?_ (by dsimp only; omega) _) | (with_reducible refine below_trans ?_ (by assumption))))⟩, by simp [intOf]; omega⟩
              | false =>
                rw [e3] at HB2
                go_wp2_with fail
                refine (HB.out _ (by repeat (first | (with_reducible assumption) | (with_reducible exact Below.refl _ _) | (with_reducible apply below_alloc) | (with_reducible apply below_drewN) | (with_reducible apply Below.drew) | (with_reducible refine below_set ?_ (by dsimp only; omega) _) | (with_reducible refine below_trans ?_ (by assumption))))).mono ?_
                rintro e w2 ⟨rfl, m2, rfl⟩
                go_wp2_with fail
                refine (HB2.out _ (by repeat (first | (with_reducible assumption) | (with_reducible exact Below.refl _ _) | (with_reducible apply below_alloc) | (with_reducible apply below_drewN) | (with_reducible apply Below.drew) | (with_reducible refine below_set ?_ (by dsimp only; omega) _) | (with_reducible refine below_trans ?_ (by assumption))))).mono ?_
                rintro e w2 ⟨rfl, m3, rfl⟩
                go_wp2_with fail
                go_ret
                exact ⟨ret_bool (matchB_false hlt2 HN.out HN2.out (by unfold parts; rw [e1, e2, e3]; rfl)).symm, by repeat (first | (with_reducible assumption) | (with_reducible exact Below.refl _ _) | (with_reducible apply below_alloc) | (with_reducible apply below_drewN) | (with_reducible apply Below.drew) | (with_reducible refine below_set ?_ (by dsimp only; omega) _) | (with_reducible refine below_trans ?_ (by assumption)))⟩
        · have hlk : l = k := by omega
          subst hlk
          have HM := Lib.hid (hm.row (Nat.le_refl _))
          clear hm
          go_wp2_with fail
          exact ⟨⟨l + 1, hlt, by go_num, HM.out, below_trans hb i2.below⟩, by simp [intOf]; omega⟩
    · have HM := Lib.hid (hm.done (by omega))
      clear hm
      go_wp2
      go_ret
      exact ⟨ret_bool (matchB_true HM.out).symm, hb⟩
end Go.Proofs.Ytnbenhkbcodlfaa
