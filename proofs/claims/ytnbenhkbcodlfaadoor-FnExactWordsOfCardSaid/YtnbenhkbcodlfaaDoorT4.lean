/- The words of a text: the reference's and the program's (written by gT4.py, own work). -/
import Derived.Test.YtnbenhkbcodlfaaDoorT3
import Derived.Test.YtnbenhkbcodlfaaDoorSpl
set_option linter.unusedVariables false
set_option linter.unusedSimpArgs false
namespace Go.Proofs.YtnbenhkbcodlfaaDoor
open Go Go.RowKit Mk
def neE (x : ByteArray) : Bool := !x.toList.isEmpty
theorem filt_succ (xs : List ByteArray) (k : Nat) (h : k < xs.length) : (xs.take (k + 1)).filter neE = (xs.take k).filter neE ++ (if neE xs[k] then [xs[k]] else []) := by
  rw [List.take_succ_eq_append_getElem h, List.filter_append]
  simp [List.filter_cons]
theorem shaped_below {w w' : World} (h : w.ShapedOpen Tryd.prog) (hb : Below w.heap.size w w') : w'.ShapedOpen Tryd.prog := h.keptBut (hb.frame (fun _ => False)) (fun p hp => hp.elim)
theorem rdL_strs (W : World) : ∀ xs : List ByteArray, RdL kStr W (xs.map Value.string) xs
  | [] => rfl
  | x :: xs => ⟨[.string x], _, rfl, rfl, rdL_strs W xs⟩
theorem cells_str (w : World) (xs : List ByteArray) (hx : xs.length ≤ 1048577) : OwnS kStr 9 w.heap.size (w.alloc (.cells (xs.map Value.string).toArray 9)) [w.heap.size] (.slice (some ⟨w.heap.size, 0, none⟩) xs.length xs.length) xs :=
  ownS_blk (blk_alloc w (xs.map Value.string) 9) (flat_str.row (rdL_strs _ xs)) (Nat.le_refl _) (by unfold maxLen; omega)
set_option maxRecDepth 100000 in
set_option maxHeartbeats 4000000 in
theorem l16Words_c (s : ByteArray) (w : World) (hs : s.size ≤ 1048576) :
    Calls Tryd.prog 14 #[.string s] w fun r w' => LaidStrs (wordsB s) w r w' := by
  have hxl : ((cutL 32 s.data.toList).map toB).length ≤ 1048577 := by rw [List.length_map]; have := cutL_len 32 s.data.toList; rw [(Lib.size_eq s).symm] at this; omega
  have hX : ((cutL 32 s.data.toList).map toB).filter neE = wordsB s := rfl
  have HC := Lib.hid (fun W => l16Cut_c s W hs)
  generalize (cutL 32 s.data.toList).map toB = xs at hxl hX HC
  go_enter Tryd.func14, Tryd.ntmps14
  go_wp2_with fail
  refine (HC.out _).mono ?_
  rintro e w2 ⟨PA, pc, fq, rfl, oq, nq, hb2⟩
  have o1 := OwnS.keep (w' := w2) (ownS_empty kStr w 9 (Nat.le_refl w.heap.size)) (fun b hm => hb2.block b (by simp at hm; rw [hm, Deep.nblk_alloc]; omega))
  have n1 : [w.heap.size].Nodup := by simp
  have bw2 : Below w.heap.size w w2 := below_trans (below_alloc (Below.refl _ _) _) hb2
  have dj : ∀ b ∈ [w.heap.size], b ∉ fq := fun b h1 h2 => by have := (oq.in b h2).1; simp at h1; rw [Deep.nblk_alloc] at this; omega
  obtain ⟨B2, hB2⟩ : ∃ B2, B2 = (w.alloc (.cells #[] 9)).heap.size := ⟨_, rfl⟩
  rw [← hB2] at oq
  clear hb2 hB2 HC
  go_wp2_with fail
  go_loopw [3, 5] (fun v i W => ∃ (k : Nat) (ws : List ByteArray) (G : Option Addr) (y : Nat) (fp : List Nat), k ≤ xs.length ∧ i = .int .i64 k ∧ v = .slice G ws.length y ∧ ws = (xs.take k).filter neE ∧ OwnS kStr 9 w.heap.size W fp (.slice G ws.length y) ws ∧ fp.Nodup ∧ Below w.heap.size w W ∧ OwnS kStr 9 B2 W fq (.slice PA xs.length pc) xs ∧ (∀ b ∈ fp, b ∉ fq)) (fun _ i _ => xs.length - (intOf i).toNat)
  case atStart => exact ⟨0, [], _, _, _, Nat.zero_le _, rfl, rfl, rfl, o1, n1, bw2, oq, dj⟩
  case round =>
    clear o1 n1 bw2 oq dj
    obtain ⟨k, ws, G, y, fp, hk, rfl, rfl, hws, ow, nd, hb, oq, dj⟩ := hrel
    have hwl : ws.length ≤ k := by rw [hws]; exact Nat.le_trans (List.length_filter_le _ _) (by rw [List.length_take]; omega)
    by_cases hlt : k < xs.length
    · have hlt' : (k : Int) < (xs.length : Int) := by omega
      have hfs := filt_succ xs k hlt
      rw [← hws] at hfs
      obtain ⟨p, ep, hx⟩ := (ownS_rdsT oq).at_ hlt
      subst ep
      simp only [show kStr.sz = 1 from rfl, Nat.mul_one] at hx
      generalize xs[k] = x at hx hfs
      have q0 := atStr hx
      clear hx hws
      cases hne : neE x with
      | false =>
        rw [hne, if_neg (by simp), List.append_nil] at hfs
        have he : x.toList.isEmpty = true := by simpa [neE] using hne
        have HF := Lib.hid hfs
        clear hne hfs
        go_wp2_with fail
        exact ⟨⟨k + 1, ws, G, y, fp, hlt, by go_num, rfl, HF.out.symm, ow, nd, hb, oq, dj⟩, by simp [intOf]; omega⟩
      | true =>
        rw [hne, if_pos rfl] at hfs
        have he : x.toList.isEmpty = false := by simpa [neE] using hne
        have HF := Lib.hid hfs
        have OW := OwnS.keep (w' := wr.alloc (.cells #[.string x] 9)) ow (fun b hm => Below.heap_alloc wr _ _ (ow.in b hm).2)
        have OQ := OwnS.keep (w' := wr.alloc (.cells #[.string x] 9)) oq (fun b hm => Below.heap_alloc wr _ _ (oq.in b hm).2)
        clear hne hfs
        go_wp2_with (refine wpList_appFlat (d := kStr) (zs := [x]) (ys := ws) (A := some ⟨wr.heap.size, 0, none⟩) (c := 1) (v := .slice G ws.length y) rfl (.tmp 20) (.tmp 25) 22 9 rfl (by kernel_rfl) (by kernel_rfl) flat_str (by simp [Act.eval, Act.put]) (by simp [Act.eval, Act.put]) OW nd (rdS_one wr x) (by simp; omega) (by rw [Deep.nblk_alloc]; have := hb.size; omega) ?_; intro v' w' fp' hgr; obtain ⟨g1, g2, g3, g4⟩ := hgr; obtain ⟨AA, cA, rfl, _⟩ := g1.form; have hbb : Below w.heap.size w w' := (below_alloc hb (.cells #[.string x] 9)).trans (g3.below (B := w.heap.size) (fun b hm => (ow.in b hm).1) (by rw [Deep.nblk_alloc]; have := hb.size; omega)))
        refine ⟨⟨k + 1, ws ++ [x], AA, cA, fp', hlt, by go_num, by simp, HF.out.symm, g1, g2, hbb, OQ.turn g3 (fun b h1 h2 => dj b h2 h1), fun b h1 h2 => ?_⟩, by simp [intOf]; omega⟩
        rcases g4 b h1 with h | h | h
        · exact dj b h h2
        · cases h
        · rw [Deep.nblk_alloc] at h; have := (oq.in b h2).2; omega
    · have hk' : k = xs.length := by omega
      subst hk'
      rw [List.take_length] at hws
      have HW := Lib.hid (hws.trans hX)
      clear hws
      go_wp2_with fail
      go_ret
      exact HW.out ▸ ⟨G, y, fp, rfl, ow, nd, hb⟩
set_option maxRecDepth 100000 in
set_option maxHeartbeats 4000000 in
theorem pieces_c (s : ByteArray) (w : World) (hs : s.size ≤ 1048576) (hsh : w.ShapedOpen Tryd.prog) :
    Calls Tryd.prog 15 #[.string s] w fun r w' => LaidStrs (wordsB s) w r w' := by
  have hxl : ((cutL 32 s.data.toList).map toB).length ≤ 1048577 := by rw [List.length_map]; have := cutL_len 32 s.data.toList; rw [(Lib.size_eq s).symm] at this; omega
  have hX : ((cutL 32 s.data.toList).map toB).filter neE = wordsB s := rfl
  have hcnt : Lib.countB s ⟨#[32]⟩ + 1 = ((cutL 32 s.data.toList).map toB).length := by rw [← splitB_cut, Lib.splitB_all ⟨#[32]⟩ (by decide) 0 _ s rfl]
  have hW1 : Below w.heap.size w (w.alloc (.cells #[] 9)) := below_alloc (Below.refl _ _) _
  have hS : Calls Tryd.prog 26 #[.string s, .string ⟨#[32]⟩] (w.alloc (.cells #[] 9)) fun e w' => e = .returned (.slice (some ⟨(w.alloc (.cells #[] 9)).heap.size, 0, none⟩) (Lib.countB s ⟨#[32]⟩ + 1) (Lib.countB s ⟨#[32]⟩ + 1)) ∧ w' = (w.alloc (.cells #[] 9)).alloc (.cells ((Lib.splitB ⟨#[32]⟩ 0 (Lib.countB s ⟨#[32]⟩) s).map Value.string).toArray 9) := Any.strings_Split_shaped splitL s ⟨#[32]⟩ (w.alloc (.cells #[] 9)) (shaped_below hsh hW1) (by omega) (by decide)
  rw [hcnt, splitB_cut] at hS
  have HS := Lib.hid hS
  clear hcnt hS hsh
  generalize (cutL 32 s.data.toList).map toB = xs at hxl hX HS
  go_enter Tryd.func15, Tryd.ntmps15
  go_wp2_with fail
  refine HS.out.mono ?_
  rintro e w2 ⟨rfl, rfl⟩
  have oq := cells_str (w.alloc (.cells #[] 9)) xs hxl
  have o1 := OwnS.keep (w' := (w.alloc (.cells #[] 9)).alloc (.cells (xs.map Value.string).toArray 9)) (ownS_empty kStr w 9 (Nat.le_refl w.heap.size)) (fun b hm => Below.heap_alloc _ _ _ (by simp at hm; rw [hm, Deep.nblk_alloc]; omega))
  have n1 : [w.heap.size].Nodup := by simp
  have bw2 : Below w.heap.size w ((w.alloc (.cells #[] 9)).alloc (.cells (xs.map Value.string).toArray 9)) := below_alloc hW1 _
  obtain ⟨B2, hB2⟩ : ∃ B2, B2 = (w.alloc (.cells #[] 9)).heap.size := ⟨_, rfl⟩
  obtain ⟨PA, hPA⟩ : ∃ PA : Option Addr, PA = some ⟨(w.alloc (.cells #[] 9)).heap.size, 0, none⟩ := ⟨_, rfl⟩
  obtain ⟨fq, hfq⟩ : ∃ fq, fq = [(w.alloc (.cells #[] 9)).heap.size] := ⟨_, rfl⟩
  have dj : ∀ b ∈ [w.heap.size], b ∉ fq := fun b h1 h2 => by rw [hfq] at h2; simp only [List.mem_singleton] at h1 h2; rw [Deep.nblk_alloc] at h2; omega
  rw [← hPA, ← hfq, ← hB2] at oq
  rw [← hPA]
  clear hB2 hPA hfq HS hW1
  generalize (w.alloc (.cells #[] 9)).alloc (.cells (xs.map Value.string).toArray 9) = w2 at oq o1 bw2 ⊢
  go_wp2_with fail
  go_loopw [3, 10] (fun v i W => ∃ (k : Nat) (ws : List ByteArray) (G : Option Addr) (y : Nat) (fp : List Nat), k ≤ xs.length ∧ i = .int .i64 k ∧ v = .slice G ws.length y ∧ ws = (xs.take k).filter neE ∧ OwnS kStr 9 w.heap.size W fp (.slice G ws.length y) ws ∧ fp.Nodup ∧ Below w.heap.size w W ∧ OwnS kStr 9 B2 W fq (.slice PA xs.length xs.length) xs ∧ (∀ b ∈ fp, b ∉ fq)) (fun _ i _ => xs.length - (intOf i).toNat)
  case atStart => exact ⟨0, [], _, _, _, Nat.zero_le _, rfl, rfl, rfl, o1, n1, bw2, oq, dj⟩
  case round =>
    clear o1 n1 bw2 oq dj
    obtain ⟨k, ws, G, y, fp, hk, rfl, rfl, hws, ow, nd, hb, oq, dj⟩ := hrel
    have hwl : ws.length ≤ k := by rw [hws]; exact Nat.le_trans (List.length_filter_le _ _) (by rw [List.length_take]; omega)
    by_cases hlt : k < xs.length
    · have hlt' : (k : Int) < (xs.length : Int) := by omega
      have hfs := filt_succ xs k hlt
      rw [← hws] at hfs
      obtain ⟨p, ep, hx⟩ := (ownS_rdsT oq).at_ hlt
      subst ep
      simp only [show kStr.sz = 1 from rfl, Nat.mul_one] at hx
      generalize xs[k] = x at hx hfs
      have q0 := atStr hx
      clear hx hws
      cases hne : neE x with
      | false =>
        rw [hne, if_neg (by simp), List.append_nil] at hfs
        have he : x.toList.isEmpty = true := by simpa [neE] using hne
        have HF := Lib.hid hfs
        clear hne hfs
        go_wp2_with fail
        exact ⟨⟨k + 1, ws, G, y, fp, hlt, by go_num, rfl, HF.out.symm, ow, nd, hb, oq, dj⟩, by simp [intOf]; omega⟩
      | true =>
        rw [hne, if_pos rfl] at hfs
        have he : x.toList.isEmpty = false := by simpa [neE] using hne
        have HF := Lib.hid hfs
        have OW := OwnS.keep (w' := wr.alloc (.cells #[.string x] 9)) ow (fun b hm => Below.heap_alloc wr _ _ (ow.in b hm).2)
        have OQ := OwnS.keep (w' := wr.alloc (.cells #[.string x] 9)) oq (fun b hm => Below.heap_alloc wr _ _ (oq.in b hm).2)
        clear hne hfs
        go_wp2_with (refine wpList_appFlat (d := kStr) (zs := [x]) (ys := ws) (A := some ⟨wr.heap.size, 0, none⟩) (c := 1) (v := .slice G ws.length y) rfl (.tmp 16) (.tmp 18) 22 9 rfl (by kernel_rfl) (by kernel_rfl) flat_str (by simp [Act.eval, Act.put]) (by simp [Act.eval, Act.put]) OW nd (rdS_one wr x) (by simp; omega) (by rw [Deep.nblk_alloc]; have := hb.size; omega) ?_; intro v' w' fp' hgr; obtain ⟨g1, g2, g3, g4⟩ := hgr; obtain ⟨AA, cA, rfl, _⟩ := g1.form; have hbb : Below w.heap.size w w' := (below_alloc hb (.cells #[.string x] 9)).trans (g3.below (B := w.heap.size) (fun b hm => (ow.in b hm).1) (by rw [Deep.nblk_alloc]; have := hb.size; omega)))
        refine ⟨⟨k + 1, ws ++ [x], AA, cA, fp', hlt, by go_num, by simp, HF.out.symm, g1, g2, hbb, OQ.turn g3 (fun b h1 h2 => dj b h2 h1), fun b h1 h2 => ?_⟩, by simp [intOf]; omega⟩
        rcases g4 b h1 with h | h | h
        · exact dj b h h2
        · cases h
        · rw [Deep.nblk_alloc] at h; have := (oq.in b h2).2; omega
    · have hk' : k = xs.length := by omega
      subst hk'
      rw [List.take_length] at hws
      have HW := Lib.hid (hws.trans hX)
      clear hws
      go_wp2_with fail
      go_ret
      exact HW.out ▸ ⟨G, y, fp, rfl, ow, nd, hb⟩
end Go.Proofs.YtnbenhkbcodlfaaDoor
