/- The reference's words of a text (own work). -/
import Derived.Test.YtnbenhkbcodlfaaDoorT2
set_option linter.unusedVariables false
set_option linter.unusedSimpArgs false
namespace Go.Proofs.YtnbenhkbcodlfaaDoor
open Go Go.RowKit Mk
theorem rdS_one (w : World) (x : ByteArray) : RdS kStr (w.alloc (.cells #[.string x] 9)) (some ⟨w.heap.size, 0, none⟩) 1 [x] :=
  ⟨by simp, by unfold maxLen; omega, [.string x], ⟨[.string x], [], rfl, rfl, rfl⟩, fun _ => ⟨_, rfl, lies_alloc w #[.string x] 9⟩⟩
/-- A row of strings that a call laid. -/
def LaidStrs (xs : List ByteArray) (w : World) (r : Ending) (w' : World) : Prop := ∃ A c f, r = .returned (.slice A xs.length c) ∧ OwnS kStr 9 w.heap.size w' f (.slice A xs.length c) xs ∧ f.Nodup ∧ Below w.heap.size w w'
set_option maxRecDepth 100000 in
set_option maxHeartbeats 2000000 in
theorem l16Cut_c (s : ByteArray) (w : World) (hs : s.size ≤ 1048576) :
    Calls Tryd.prog 25 #[.string s, .int .u8 32] w fun r w' => LaidStrs ((cutL 32 s.data.toList).map toB) w r w' := by
  have hsl : s.data.toList.length = s.size := (Lib.size_eq s).symm
  go_enter Tryd.func25, Tryd.ntmps25
  go_wp2_with fail
  go_loopw [5, 6, 7] (fun v f i W => ∃ (F I : Nat) (ps : List ByteArray) (G : Option Addr) (y : Nat) (fp : List Nat), v = .slice G ps.length y ∧ f = .int .i64 F ∧ i = .int .i64 I ∧ F ≤ I ∧ OwnS kStr 9 w.heap.size W fp (.slice G ps.length y) ps ∧ fp.Nodup ∧ Below w.heap.size w W ∧ ((I ≤ s.size ∧ CutAt s F I ps ∧ ps.length ≤ I) ∨ (I = s.size + 1 ∧ ps = (cutL 32 s.data.toList).map toB))) (fun _ _ i _ => s.size + 1 - (intOf i).toNat)
  case atStart => exact ⟨0, 0, [], _, _, _, rfl, rfl, rfl, Nat.le_refl _, ownS_empty kStr w 9 (Nat.le_refl _), by simp, below_alloc (Below.refl _ _) _, .inl ⟨Nat.zero_le _, CutAt.start s, Nat.le_refl _⟩⟩
  case round =>
    obtain ⟨F, I, ps, G, y, fp, rfl, rfl, rfl, hFI, ow, nd, hb, hcase⟩ := hrel
    rcases hcase with ⟨hI, hC, hpl⟩ | ⟨rfl, rfl⟩
    · by_cases hlt : I < s.size
      · have hd : decide ((I : Int) ≤ (s.size : Int)) = true := decide_eq_true (by omega)
        have he : ((I : Int) == (s.size : Int)) = false := beq_eq_false_iff_ne.2 (by omega)
        have hlt' : (I : Int) < (s.size : Int) := by omega
        have hbe : s.data.toList[I]'(by omega) = s[I] := by simp [ByteArray.getElem_eq_getElem_data]
        have OW := OwnS.keep (w' := wr.alloc (.cells #[.string (s.extract F I)] 9)) ow (fun b hm => Below.heap_alloc wr _ _ (ow.in b hm).2)
        by_cases h32 : s[I] = 32
        · have hCc := hC.cut (by omega) (hbe.trans h32)
          have h32' : ((s[I].toNat : Int) == 32) = true := by rw [h32]; rfl
          have HCC := Lib.hid hCc
          clear hC hCc hbe h32
          go_wp2_with (refine wpList_appFlat (d := kStr) (zs := [s.extract F I]) (ys := ps) (A := some ⟨wr.heap.size, 0, none⟩) (c := 1) (v := .slice G ps.length y) rfl (.tmp 26) (.tmp 31) 22 9 rfl (by kernel_rfl) (by kernel_rfl) flat_str (by simp [Act.eval, Act.put]) (by simp [Act.eval, Act.put]) OW nd (rdS_one wr (s.extract F I)) (by simp; omega) (by rw [Deep.nblk_alloc]; have := hb.size; omega) ?_; intro v' w' fp' hgr; obtain ⟨g1, g2, g3, g4⟩ := hgr; obtain ⟨AA, cA, rfl, _⟩ := g1.form; have hbb : Below w.heap.size w w' := (below_alloc hb (.cells #[.string (s.extract F I)] 9)).trans (g3.below (B := w.heap.size) (fun b hm => (ow.in b hm).1) (by rw [Deep.nblk_alloc]; have := hb.size; omega)))
          exact ⟨⟨I + 1, I + 1, ps ++ [s.extract F I], AA, cA, fp', by simp, by go_num, by go_num, Nat.le_refl _, g1, g2, hbb, .inl ⟨by omega, HCC.out, by simp; omega⟩⟩, by simp [intOf]; omega⟩
        · have hCc := hC.go hFI (by omega) (fun e => h32 (hbe.symm.trans e))
          have h32' : ((s[I].toNat : Int) == 32) = false := by
            rw [beq_eq_false_iff_ne]
            intro e
            exact h32 (UInt8.toNat_inj.1 (by show s[I].toNat = 32; omega))
          have HCC := Lib.hid hCc
          clear hC hCc hbe h32 OW
          go_wp2_with fail
          exact ⟨⟨F, I + 1, ps, G, y, fp, rfl, rfl, by go_num, by omega, ow, nd, hb, .inl ⟨by omega, HCC.out, by omega⟩⟩, by simp [intOf]; omega⟩
      · have hIe : I = s.size := by omega
        subst hIe
        have hd : decide ((s.size : Int) ≤ (s.size : Int)) = true := decide_eq_true (by omega)
        have he : ((s.size : Int) == (s.size : Int)) = true := beq_iff_eq.2 rfl
        have hCl : ps ++ [s.extract F s.size] = (cutL 32 s.data.toList).map toB := by
          have h := hC
          rw [← hsl] at h
          have := h.last
          rwa [hsl] at this
        have OW := OwnS.keep (w' := wr.alloc (.cells #[.string (s.extract F s.size)] 9)) ow (fun b hm => Below.heap_alloc wr _ _ (ow.in b hm).2)
        have HCL := Lib.hid hCl
        clear hC hCl
        go_wp2_with (refine wpList_appFlat (d := kStr) (zs := [s.extract F s.size]) (ys := ps) (A := some ⟨wr.heap.size, 0, none⟩) (c := 1) (v := .slice G ps.length y) rfl (.tmp 26) (.tmp 31) 22 9 rfl (by kernel_rfl) (by kernel_rfl) flat_str (by simp [Act.eval, Act.put]) (by simp [Act.eval, Act.put]) OW nd (rdS_one wr (s.extract F s.size)) (by simp; omega) (by rw [Deep.nblk_alloc]; have := hb.size; omega) ?_; intro v' w' fp' hgr; obtain ⟨g1, g2, g3, g4⟩ := hgr; obtain ⟨AA, cA, rfl, _⟩ := g1.form; have hbb : Below w.heap.size w w' := (below_alloc hb (.cells #[.string (s.extract F s.size)] 9)).trans (g3.below (B := w.heap.size) (fun b hm => (ow.in b hm).1) (by rw [Deep.nblk_alloc]; have := hb.size; omega)))
        rw [HCL.out] at g1
        exact ⟨⟨s.size + 1, s.size + 1, (cutL 32 s.data.toList).map toB, AA, cA, fp', by rw [← HCL.out]; simp, by go_num, by go_num, Nat.le_refl _, g1, g2, hbb, .inr ⟨rfl, rfl⟩⟩, by simp [intOf]⟩
    · have hd : decide (((s.size + 1 : Nat) : Int) ≤ (s.size : Int)) = false := decide_eq_false (by omega)
      go_wp2_with fail
      go_ret
      exact ⟨G, y, fp, rfl, ow, nd, hb⟩
end Go.Proofs.YtnbenhkbcodlfaaDoor
