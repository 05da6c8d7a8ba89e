/- The text of an operation: the program's OpText (written by gU4.py, own work). -/
import Derived.Test.YtnbenhkbcodlfaaDoorU3
set_option linter.unusedVariables false
set_option linter.unusedSimpArgs false
namespace Go.Proofs.YtnbenhkbcodlfaaDoor
open Go Go.RowKit Mk
theorem mk_toList (b : ByteArray) : (⟨b.data.toList.toArray⟩ : ByteArray) = b := rfl
theorem lineB_tail (wd : ByteArray) (ns : List Nat) : (lineB wd ns).data.toList = wd.data.toList ++ Lib.joinTail [32] (ns.map Lib.decDigits) := by
  induction ns generalizing wd with
  | nil => simp [lineB, Lib.joinTail]
  | cons n ns ih =>
    rw [lineB, ih]
    simp [Lib.joinTail, numB]
theorem lineB_join (wd : ByteArray) (ns : List Nat) : (⟨(Lib.join ((wd :: ns.map numB).map (·.data.toList)) [32]).toArray⟩ : ByteArray) = lineB wd ns := by
  rw [List.map_cons, Lib.join_cons, List.map_map, show ((fun b : ByteArray => b.data.toList) ∘ numB) = Lib.decDigits from funext fun n => rfl, ← lineB_tail]
theorem join_blk (wd : ByteArray) (ns : List Nat) (g : Nat) (W : World) (h : Blk W g 9 (.string wd :: ns.map (fun n => .string (numB n)))) (hw : wd.size ≤ 7) (hl : ns.length ≤ 4) (hn : ∀ n ∈ ns, n ≤ 1000) :
    Calls Tryd.prog 39 #[.slice (some ⟨g, 0, none⟩) (ns.length + 1) (ns.length + 1), .string ⟨#[32]⟩] W fun e w' => e = .returned (.string (lineB wd ns)) ∧ Below W.heap.size W w' := by
  have hs := line_size wd ns hn
  have hj := lineB_join wd ns
  have hlen : (wd :: ns.map numB).length = ns.length + 1 := by simp
  have H := Any.strings_Join joinL joinX g 0 (ns.length + 1) (wd :: ns.map numB) ⟨#[32]⟩ W (fun j x hx => by
      rw [Nat.zero_add]
      refine h.cell (j := j) ?_
      cases j with
      | zero => simp at hx ⊢; exact hx
      | succ j => simp at hx ⊢; obtain ⟨n, h1, h2⟩ := hx; exact ⟨n, h1, h2⟩) h.lt (by rw [hlen]; omega) (by rw [hlen]; exact Nat.le_refl _) (by
        have : (Lib.join ((wd :: ns.map numB).map (·.data.toList)) [32]).length = (lineB wd ns).size := by rw [← hj]; simp [ByteArray.size]
        show (Lib.join ((wd :: ns.map numB).map (·.data.toList)) [32]).length ≤ _
        omega)
  rw [hlen] at H
  refine Calls.mono H ?_
  rintro e w' ⟨he, hb⟩
  exact ⟨he.trans (congrArg (fun b => Ending.returned (.string b)) hj), hb⟩
theorem blk_alloc2 (w : World) (oa ob : Obj) (l : List Value) (e : TypeId) : Blk (((w.alloc oa).alloc ob).alloc (.cells l.toArray e)) (w.heap.size + 2) e l := by
  have h := blk_alloc1 (w.alloc oa) ob l e
  rwa [Deep.nblk_alloc] at h
set_option maxRecDepth 100000 in
set_option maxHeartbeats 4000000 in
theorem opText_c (o : SOp) (w : World) (h : opF o = 0) (htab : Lib.TabIs Tryd.prog w "internal/strconv.uint64pow10" .u64 Lib.pow10Tab) :
    Calls Tryd.prog 24 #[.agg #[.int .i64 o.Kind, .int .i64 o.Vol, .int .i64 o.At, .int .i64 o.Value]] w fun r w' => r = .returned (.string (textB o)) ∧ Below w.heap.size w w' := by
  obtain ⟨⟨k1, k6⟩, ⟨v1, v9⟩, ⟨a1, a2⟩, ⟨b1, b2⟩⟩ := opF_zero h
  obtain ⟨K, V, T, X⟩ := o
  dsimp only at k1 k6 v1 v9 a1 a2 b1 b2 ⊢
  obtain ⟨V, rfl⟩ := Int.eq_ofNat_of_zero_le (show 0 ≤ V by omega)
  obtain ⟨T, rfl⟩ := Int.eq_ofNat_of_zero_le (show 0 ≤ T by omega)
  obtain ⟨X, rfl⟩ := Int.eq_ofNat_of_zero_le (show 0 ≤ X by omega)
  have hV : V ≤ 1000 := by omega
  have hT : T ≤ 1000 := by omega
  have hX : X ≤ 1000 := by omega
  have hkk : K = 1 ∨ K = 2 ∨ K = 3 ∨ K = 4 ∨ K = 5 ∨ K = 6 := by omega
  clear h k1 k6 v1 v9 a1 a2 b1 b2
  have HV := Lib.hid (fun W => decimal_c V hV W)
  have HT := Lib.hid (fun W => decimal_c T hT W)
  have HX := Lib.hid (fun W => decimal_c X hX W)
  go_enter Tryd.func24, Tryd.ntmps24
  go_upto_region 1 with fail
  refine at_world (fun W => Blk W w.heap.size 34 [.int .i64 K, .int .i64 V, .int .i64 T, .int .i64 X] ∧ Below w.heap.size w W) ⟨blk_alloc w [.int .i64 K, .int .i64 V, .int .i64 T, .int .i64 X] _, below_alloc (Below.refl _ _) _⟩ ?_
  rintro w1 ⟨xB, b1⟩
  have x0 := xB.cell (j := 0) rfl
  have x1 := xB.cell (j := 1) rfl
  have x2 := xB.cell (j := 2) rfl
  have x3 := xB.cell (j := 3) rfl
  go_region_held3 (fun W => W.cell? ⟨w.heap.size, 1, none⟩ = some (.int .i64 (V : Int)) ∧ W.cell? ⟨w.heap.size, 2, none⟩ = some (.int .i64 (T : Int)) ∧ W.cell? ⟨w.heap.size, 3, none⟩ = some (.int .i64 (X : Int))) (first | (with_reducible exact ⟨x1, x2, x3⟩) | (refine ⟨cell_below (show Below w1.heap.size w1 _ from ?_) x1, cell_below (show Below w1.heap.size w1 _ from ?_) x2, cell_below (show Below w1.heap.size w1 _ from ?_) x3⟩ <;> ((repeat (first | (with_reducible assumption) | (with_reducible exact Below.refl _ _) | (with_reducible apply below_alloc) | (with_reducible apply below_drewN) | (with_reducible apply Below.drew) | (with_reducible refine below_set ?_ (by dsimp only; omega) _) | (with_reducible refine below_trans ?_ (by assumption)))); done)) | go_keep) (first | (go_at_call 38; (first | (with_reducible refine (HV.out _ (tab_below htab ?_)).mono ?_) | (with_reducible refine (HT.out _ (tab_below htab ?_)).mono ?_) | (with_reducible refine (HX.out _ (tab_below htab ?_)).mono ?_)); (focus ((repeat (first | (with_reducible assumption) | (with_reducible exact Below.refl _ _) | (with_reducible apply below_alloc) | (with_reducible apply below_drewN) | (with_reducible apply Below.drew) | (with_reducible refine below_set ?_ (by dsimp only; omega) _) | (with_reducible refine below_trans ?_ (by assumption)))); done)); rintro e wd ⟨rfl, hbd⟩))
  have x0 := cell_below (show Below w1.heap.size w1 wd by repeat (first | (with_reducible assumption) | (with_reducible exact Below.refl _ _) | (with_reducible apply below_alloc) | (with_reducible apply below_drewN) | (with_reducible apply Below.drew) | (with_reducible refine below_set ?_ (by dsimp only; omega) _) | (with_reducible refine below_trans ?_ (by assumption)))) x0
  have bw : Below w.heap.size w wd := by repeat (first | (with_reducible assumption) | (with_reducible exact Below.refl _ _) | (with_reducible apply below_alloc) | (with_reducible apply below_drewN) | (with_reducible apply Below.drew) | (with_reducible refine below_set ?_ (by dsimp only; omega) _) | (with_reducible refine below_trans ?_ (by assumption)))
  replace x0 := cell_below (below_alloc (Below.refl wd.heap.size wd) (.cells #[] 9)) x0
  clear HV HT HX htab x1 x2 x3 xB b1
  rcases hkk with rfl | rfl | rfl | rfl | rfl | rfl
  · go_wp2_with fail
    refine (join_blk (nameB 1) [V, X] _ _ ?_ (by decide) (by simp) (by simp [hV, hX])).mono ?_
    · (first | exact blk_alloc _ _ _ | exact blk_alloc1 _ _ _ _ | exact blk_alloc2 _ _ _ _ _)
    rintro e we ⟨rfl, hbe⟩
    go_wp2_with fail
    go_ret
    exact ⟨rfl, by repeat (first | (with_reducible assumption) | (with_reducible exact Below.refl _ _) | (with_reducible apply below_alloc) | (with_reducible apply below_drewN) | (with_reducible apply Below.drew) | (with_reducible refine below_set ?_ (by dsimp only; omega) _) | (with_reducible refine below_trans ?_ (by assumption)))⟩
  · go_wp2_with fail
    refine (join_blk (nameB 2) [V, T, X] _ _ ?_ (by decide) (by simp) (by simp [hV, hT, hX])).mono ?_
    · (first | exact blk_alloc _ _ _ | exact blk_alloc1 _ _ _ _ | exact blk_alloc2 _ _ _ _ _)
    rintro e we ⟨rfl, hbe⟩
    go_wp2_with fail
    go_ret
    exact ⟨rfl, by repeat (first | (with_reducible assumption) | (with_reducible exact Below.refl _ _) | (with_reducible apply below_alloc) | (with_reducible apply below_drewN) | (with_reducible apply Below.drew) | (with_reducible refine below_set ?_ (by dsimp only; omega) _) | (with_reducible refine below_trans ?_ (by assumption)))⟩
  · go_wp2_with fail
    refine (join_blk (nameB 3) [V, T] _ _ ?_ (by decide) (by simp) (by simp [hV, hT])).mono ?_
    · (first | exact blk_alloc _ _ _ | exact blk_alloc1 _ _ _ _ | exact blk_alloc2 _ _ _ _ _)
    rintro e we ⟨rfl, hbe⟩
    go_wp2_with fail
    go_ret
    exact ⟨rfl, by repeat (first | (with_reducible assumption) | (with_reducible exact Below.refl _ _) | (with_reducible apply below_alloc) | (with_reducible apply below_drewN) | (with_reducible apply Below.drew) | (with_reducible refine below_set ?_ (by dsimp only; omega) _) | (with_reducible refine below_trans ?_ (by assumption)))⟩
  · go_wp2_with fail
    refine (join_blk (nameB 4) [V, T] _ _ ?_ (by decide) (by simp) (by simp [hV, hT])).mono ?_
    · (first | exact blk_alloc _ _ _ | exact blk_alloc1 _ _ _ _ | exact blk_alloc2 _ _ _ _ _)
    rintro e we ⟨rfl, hbe⟩
    go_wp2_with fail
    go_ret
    exact ⟨rfl, by repeat (first | (with_reducible assumption) | (with_reducible exact Below.refl _ _) | (with_reducible apply below_alloc) | (with_reducible apply below_drewN) | (with_reducible apply Below.drew) | (with_reducible refine below_set ?_ (by dsimp only; omega) _) | (with_reducible refine below_trans ?_ (by assumption)))⟩
  · go_wp2_with fail
    refine (join_blk (nameB 5) [V, X] _ _ ?_ (by decide) (by simp) (by simp [hV, hX])).mono ?_
    · (first | exact blk_alloc _ _ _ | exact blk_alloc1 _ _ _ _ | exact blk_alloc2 _ _ _ _ _)
    rintro e we ⟨rfl, hbe⟩
    go_wp2_with fail
    go_ret
    exact ⟨rfl, by repeat (first | (with_reducible assumption) | (with_reducible exact Below.refl _ _) | (with_reducible apply below_alloc) | (with_reducible apply below_drewN) | (with_reducible apply Below.drew) | (with_reducible refine below_set ?_ (by dsimp only; omega) _) | (with_reducible refine below_trans ?_ (by assumption)))⟩
  · go_wp2_with fail
    refine (join_blk (nameB 6) [V] _ _ ?_ (by decide) (by simp) (by simp [hV])).mono ?_
    · (first | exact blk_alloc _ _ _ | exact blk_alloc1 _ _ _ _ | exact blk_alloc2 _ _ _ _ _)
    rintro e we ⟨rfl, hbe⟩
    go_wp2_with fail
    go_ret
    exact ⟨rfl, by repeat (first | (with_reducible assumption) | (with_reducible exact Below.refl _ _) | (with_reducible apply below_alloc) | (with_reducible apply below_drewN) | (with_reducible apply Below.drew) | (with_reducible refine below_set ?_ (by dsimp only; omega) _) | (with_reducible refine below_trans ?_ (by assumption)))⟩
end Go.Proofs.YtnbenhkbcodlfaaDoor
