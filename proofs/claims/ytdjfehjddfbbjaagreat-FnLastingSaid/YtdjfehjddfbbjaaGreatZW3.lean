/- Logs drawn (written by gW3.py, own work). -/
import Derived.Test.YtdjfehjddfbbjaaGreatZW2
import Derived.Test.YtdjfehjddfbbjaaGreatZW
set_option linter.unusedVariables false
set_option linter.unusedSimpArgs false
namespace Go.Proofs.YtdjfehjddfbbjaaGreat
open Go Go.RowKit Mk
theorem flat_entryW : Flat kEntry := flat_iso _ (flat_pair flat_int (flat_pair flat_int (flat_iso _ (flat_pair flat_int (flat_pair flat_int (flat_pair flat_int flat_int))))))
theorem rdEntryW (w : World) (x : SEntry) : kEntry.Rd w [.int .i64 x.Client, .int .i64 x.Seq, .int .i64 x.Op.Kind, .int .i64 x.Op.Vol, .int .i64 x.Op.At, .int .i64 x.Op.Value] x := ⟨[.int .i64 x.Client], _, rfl, rfl, ⟨[.int .i64 x.Seq], _, rfl, rfl, ⟨[.int .i64 x.Op.Kind], _, rfl, rfl, ⟨[.int .i64 x.Op.Vol], _, rfl, rfl, ⟨[.int .i64 x.Op.At], [.int .i64 x.Op.Value], rfl, rfl, rfl⟩⟩⟩⟩⟩
theorem rdS_oneE (w : World) (x : SEntry) : RdS kEntry (w.alloc (.cells #[.int .i64 x.Client, .int .i64 x.Seq, .int .i64 x.Op.Kind, .int .i64 x.Op.Vol, .int .i64 x.Op.At, .int .i64 x.Op.Value] 49)) (some ⟨w.heap.size, 0, none⟩) 1 [x] :=
  ⟨by simp, by unfold maxLen; omega, [.int .i64 x.Client, .int .i64 x.Seq, .int .i64 x.Op.Kind, .int .i64 x.Op.Vol, .int .i64 x.Op.At, .int .i64 x.Op.Value], ⟨[.int .i64 x.Client, .int .i64 x.Seq, .int .i64 x.Op.Kind, .int .i64 x.Op.Vol, .int .i64 x.Op.At, .int .i64 x.Op.Value], [], rfl, rdEntryW _ x, rfl⟩, fun _ => ⟨_, rfl, lies_alloc w #[.int .i64 x.Client, .int .i64 x.Seq, .int .i64 x.Op.Kind, .int .i64 x.Op.Vol, .int .i64 x.Op.At, .int .i64 x.Op.Value] 49⟩⟩
/-- A log drawn. -/
def LogTo (w0 : World) (g : Nat) (A : Option Addr) (len c M : Nat) (w : World) (r : Ending) (w' : World) : Prop :=
  ∃ (xs : List SEntry) (G : Option Addr) (y : Nat) (f : List Nat), r = .returned (.slice G xs.length y) ∧ xs.length ≤ 8 ∧ OwnS kEntry 49 w.heap.size w' f (.slice G xs.length y) xs ∧ f.Nodup ∧ SrcTo w0 g A len c (M + 60) w' ∧ Turn [g] w w'
set_option maxRecDepth 100000 in
set_option maxHeartbeats 4000000 in
theorem l8Log_c {w0 : World} {g : Nat} {code : List (Fin 256)} {A : Option Addr} {c M : Nat} {w : World} (hr : RdS kU8 w0 A c code) (hs : SrcTo w0 g A code.length c M w) (hm : M ≤ 970000) :
    Calls Tryz.prog 127 #[.pointer (some ⟨g, 0, none⟩)] w fun r w' => LogTo w0 g A code.length c M w r w' := by
  have hz : g < w.heap.size := hs.lt
  have hw0 : w0.heap.size ≤ w.heap.size := hs.b0.size
  have hg0 : w0.heap.size ≤ g := hs.ge
  have hs1 := hs.below (below_alloc (Below.refl w.heap.size w) (.cells #[] 49))
  go_enter Tryz.func127, Tryz.ntmps127
  go_wp2_with fail
  refine (next_c hr hs1 (by omega) (by omega) (by omega)).mono ?_
  rintro e w1 ⟨k0, rfl, kl, -, hs2, hT1⟩
  replace kl := kl (by omega)
  have o1 := (ownS_empty kEntry w 49 (Nat.le_refl w.heap.size)).turn hT1 (by simp; omega)
  have n1 : [w.heap.size].Nodup := by simp
  have hT : Turn [g] w w1 := ((Turn.refl [g] w).alloc _).trans hT1
  clear hs hs1 hT1
  go_wp2_with fail
  go_loopw [3, 4] (fun v i W => ∃ (k : Nat) (xs : List SEntry) (G : Option Addr) (y : Nat) (fp : List Nat), k ≤ 8 ∧ i = .int .i64 k ∧ v = .slice G xs.length y ∧ xs.length + k ≤ 8 ∧ OwnS kEntry 49 w.heap.size W fp (.slice G xs.length y) xs ∧ fp.Nodup ∧ SrcTo w0 g A code.length c (M + 1 + 7 * (8 - k)) W ∧ Turn [g] w W) (fun _ i _ => (intOf i).toNat)
  case atStart => exact ⟨k0, [], _, _, _, by omega, rfl, rfl, by simp; omega, o1, n1, hs2.mono (by omega), hT⟩
  case round =>
    clear o1 n1 hs2 hT
    obtain ⟨k, xs, G, y, fp, hk, rfl, rfl, hxl, ow, nd, hs, hT⟩ := hrel
    by_cases hlt : 0 < k
    · have hlt' : (0 : Int) < (k : Int) := by omega
      go_wp2_with fail
      refine (l8Entry_c hr hs (by omega)).mono ?_
      rintro e wr ⟨x, rfl, hs, hT1⟩
      replace ow := ow.turn hT1 (fun b hb => by have := (ow.in b hb).1; simp; omega)
      have hT2 := hT.trans hT1
      have hsz := hT2.size
      have OW := OwnS.keep (w' := wr.alloc (.cells #[.int .i64 x.Client, .int .i64 x.Seq, .int .i64 x.Op.Kind, .int .i64 x.Op.Vol, .int .i64 x.Op.At, .int .i64 x.Op.Value] 49)) ow (fun b hm => Below.heap_alloc wr _ _ (ow.in b hm).2)
      have HS := hs.below (below_alloc (Below.refl wr.heap.size wr) (.cells #[.int .i64 x.Client, .int .i64 x.Seq, .int .i64 x.Op.Kind, .int .i64 x.Op.Vol, .int .i64 x.Op.At, .int .i64 x.Op.Value] 49))
      have HT := hT2.alloc (.cells #[.int .i64 x.Client, .int .i64 x.Seq, .int .i64 x.Op.Kind, .int .i64 x.Op.Vol, .int .i64 x.Op.At, .int .i64 x.Op.Value] 49)
      clear hs hT1 hT hT2
      go_wp2_with (refine wpList_appFlat (d := kEntry) (zs := [x]) (ys := xs) (A := some ⟨wr.heap.size, 0, none⟩) (c := 1) (v := .slice G xs.length y) rfl (.tmp 12) (.tmp 15) 24 49 rfl (by kernel_rfl) (by kernel_rfl) flat_entryW (by simp [Act.eval, Act.put]) (by simp [Act.eval, Act.put]) OW nd (rdS_oneE wr x) (by simp; omega) (by rw [Deep.nblk_alloc]; omega) ?_; intro v' w' fp' hgr; obtain ⟨g1, g2, g3, g4⟩ := hgr; obtain ⟨AA, cA, rfl, _⟩ := g1.form)
      refine ⟨⟨k - 1, xs ++ [x], AA, cA, fp', by omega, by go_num, by simp, by simp; omega, g1, g2, (HS.turn g3 (fun b hb => by have := (ow.in b hb).1; omega) (fun hb => by have := (ow.in g hb).1; omega)).mono (by omega), HT.fresh g3 (fun b hb => .inr (ow.in b hb).1)⟩, by simp [intOf]; omega⟩
    · have hk' : k = 0 := by omega
      subst hk'
      go_wp2_with fail
      go_ret
      exact ⟨xs, G, y, fp, rfl, by omega, ow, nd, hs.mono (by omega), hT⟩
end Go.Proofs.YtdjfehjddfbbjaaGreat
