/- What a node knows of another, while it is drawn (written by gW7.py, own work). -/
import Derived.Test.YtdjfehjddfbbjaaGreatZW5
set_option linter.unusedVariables false
set_option linter.unusedSimpArgs false
namespace Go.Proofs.YtdjfehjddfbbjaaGreat
open Go Go.RowKit Mk
section
variable {w0 : World} {g : Nat} {A : Option Addr} {len c M : Nat} {w : World} {b : Nat} {n : SReplica} {fp : List Nat} {W W1 : World}
theorem DrawSt.turnZ {zd : Nat} (h : DrawSt w0 g A len c M w b n fp W) (T : Turn [zd] W W1) (hw : w.heap.size < zd) (hb : b ≠ zd) (hf : ∀ y ∈ fp, y ≠ zd) : DrawSt w0 g A len c M w b n fp W1 := by
  obtain ⟨h1, h2, h3, h4, h5, h6, h7⟩ := h
  exact ⟨h1.turn T (by simp; omega), h2.turn T (by simpa using hb) (fun y hy => by simpa using hf y hy), h3.turn T (by simp; omega) (by simp; omega), h4.fresh T (by simp; right; omega), h5, h6, h7⟩
/-- The other's box zd, made at W0. -/
def DoerSt (w0 : World) (g : Nat) (A : Option Addr) (len c M : Nat) (w : World) (b : Nat) (n : SReplica) (fp : List Nat) (zd : Nat) (d : SDoer) (fl : List Nat) (W0 W : World) : Prop :=
  DrawSt w0 g A len c M w b n fp W ∧ (∃ D2 e2, Blk W zd 70 [.bool d.Known, .int .i64 d.Last, .slice D2 d.Log.length e2, .int .i64 d.Commit] ∧ OwnS kEntry 49 (w.heap.size + 1) W fl (.slice D2 d.Log.length e2) d.Log) ∧ fl.Nodup ∧ (∀ y ∈ fl, W0.heap.size ≤ y) ∧ Turn [g, zd] W0 W ∧ (w.heap.size < zd ∧ zd < W0.heap.size ∧ b ≠ zd ∧ (∀ y ∈ fp, y ≠ zd) ∧ w.heap.size + 1 ≤ W0.heap.size)
variable {zd : Nat} {d : SDoer} {fl : List Nat} {W0 : World}
theorem DoerSt.turnG {M' : Nat} (h : DoerSt w0 g A len c M w b n fp zd d fl W0 W) (T : Turn [g] W W1) (hs : SrcTo w0 g A len c M' W1) : DoerSt w0 g A len c M' w b n fp zd d fl W0 W1 := by
  obtain ⟨hD, ⟨D2, e2, hB, ho⟩, nl, hl, hT, h1, h2, h3, h4, h5⟩ := h
  have hg : g < w.heap.size := hD.2.2.2.2.2.1
  exact ⟨hD.turnG T hs, ⟨D2, e2, hB.turn T (by simp; omega), ho.turn T (fun y hy => by have := hl y hy; simp; omega)⟩, nl, hl, hT.trans (T.mono (by simp)), h1, h2, h3, h4, h5⟩
theorem DoerSt.setLast (h : DoerSt w0 g A len c M w b n fp zd d fl W0 W) (x : Int) : DoerSt w0 g A len c M w b n fp zd { d with Last := x } fl W0 (W.setCell ⟨zd, 1, none⟩ (.int .i64 x)) := by
  obtain ⟨hD, ⟨D2, e2, hB, ho⟩, nl, hl, hT, h1, h2, h3, h4, h5⟩ := h
  have T := (Turn.refl [zd] W).set (p := ⟨zd, 1, none⟩) (by simp) (.int .i64 x)
  have K := hB.set0 1 (.int .i64 x)
  simp only [List.set_cons_zero, List.set_cons_succ] at K
  generalize W.setCell ⟨zd, 1, none⟩ (.int .i64 x) = W2 at T K ⊢
  exact ⟨hD.turnZ T h1 h3 h4, ⟨D2, e2, K, ho.turn T (fun y hy => by have := hl y hy; simp; omega)⟩, nl, hl, hT.trans (T.mono (by simp)), h1, h2, h3, h4, h5⟩
theorem DoerSt.setCommit (h : DoerSt w0 g A len c M w b n fp zd d fl W0 W) (x : Int) : DoerSt w0 g A len c M w b n fp zd { d with Commit := x } fl W0 (W.setCell ⟨zd, 3, none⟩ (.int .i64 x)) := by
  obtain ⟨hD, ⟨D2, e2, hB, ho⟩, nl, hl, hT, h1, h2, h3, h4, h5⟩ := h
  have T := (Turn.refl [zd] W).set (p := ⟨zd, 3, none⟩) (by simp) (.int .i64 x)
  have K := hB.set0 3 (.int .i64 x)
  simp only [List.set_cons_zero, List.set_cons_succ] at K
  generalize W.setCell ⟨zd, 3, none⟩ (.int .i64 x) = W2 at T K ⊢
  exact ⟨hD.turnZ T h1 h3 h4, ⟨D2, e2, K, ho.turn T (fun y hy => by have := hl y hy; simp; omega)⟩, nl, hl, hT.trans (T.mono (by simp)), h1, h2, h3, h4, h5⟩
theorem DoerSt.setLog (h : DoerSt w0 g A len c M w b n fp zd d fl W0 W) {G : Option Addr} {y : Nat} {xs : List SEntry} {f : List Nat} (ho : OwnS kEntry 49 W0.heap.size W f (.slice G xs.length y) xs) (nf : f.Nodup) : DoerSt w0 g A len c M w b n fp zd { d with Log := xs } f W0 (W.setCell ⟨zd, 2, none⟩ (.slice G xs.length y)) := by
  obtain ⟨hD, ⟨D2, e2, hB, -⟩, nl, hl, hT, h1, h2, h3, h4, h5⟩ := h
  have hi := ho.in
  have T := (Turn.refl [zd] W).set (p := ⟨zd, 2, none⟩) (by simp) (.slice G xs.length y)
  have K := hB.set0 2 (.slice G xs.length y)
  simp only [List.set_cons_zero, List.set_cons_succ] at K
  generalize W.setCell ⟨zd, 2, none⟩ (.slice G xs.length y) = W2 at T K ⊢
  exact ⟨hD.turnZ T h1 h3 h4, ⟨G, y, K, (ho.turn T (fun y hy => by have := (hi y hy).1; simp; omega)).lift (fun y hy => by have := (hi y hy).1; omega)⟩, nf, fun y hy => (hi y hy).1, hT.trans (T.mono (by simp)), h1, h2, h3, h4, h5⟩
end
end Go.Proofs.YtdjfehjddfbbjaaGreat
