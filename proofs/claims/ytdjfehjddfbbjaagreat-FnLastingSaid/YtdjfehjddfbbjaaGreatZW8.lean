/- A drawn node's first doer is written (own work). -/
import Derived.Test.YtdjfehjddfbbjaaGreatZW7
import Derived.Test.YtdjfehjddfbbjaaGreatZRo
set_option linter.unusedVariables false
set_option linter.unusedSimpArgs false
namespace Go.Proofs.YtdjfehjddfbbjaaGreat
open Go Go.RowKit Mk
theorem RepBox.writeDoer0 {b o : Nat} {e : TypeId} {pr po : List Value} {B : Nat} {n : SReplica} {fp : List Nat} {w : World} (hR : RepBox b o e pr po B n fp w) {d : SDoer} {ds : List SDoer} (hds : n.Doers = d :: ds) :
    ∃ g c, w.cell? ⟨b, o + 9, none⟩ = some (.slice (some ⟨g, 0, none⟩) n.Doers.length c) ∧ g ∈ fp ∧ w.cell? ⟨g, 3, none⟩ = some (.int .i64 d.Commit) ∧ w.frozen? ⟨g, 3, none⟩ = false ∧
      ∀ x : Int, RepBox b o e pr po B { n with Doers := { d with Commit := x } :: ds } fp (w.setCell ⟨g, 3, none⟩ (.int .i64 x)) := by
  obtain ⟨A5, c5, A7, c7, A8, c8, A9, c9, f5, f7, f8, f9, rfl, hB, ⟨h5, h7, h8, h9, nd⟩, hn, ho, hs⟩ := hR
  have nj : f9.Nodup := by simp only [List.nodup_append] at nd; grind
  have hin := h9.in
  have hz := h9
  generalize hA : A9 = AA at hz
  rw [hds, show d :: ds = [] ++ d :: ds from rfl] at hz
  obtain ⟨g, fe, f1, f2, d1, de, d2, hA2, hl, hf, hc1, hG, hO, hback⟩ := hz.zoom nj
  have hAA : A9 = some ⟨g, 0, none⟩ := hA.trans hA2
  obtain ⟨D2, e2, q2, rfl, rfl, hol⟩ := kDoer_own hO
  have hlk : d1.length = 0 := by rw [hc1]; simp
  have hgf : g ∈ f9 := by rw [hf]; simp
  have hgb : g ≠ b := fun h => hn (by subst h; simp [hgf])
  have q0 : w.cell? ⟨g, 3, none⟩ = some (.int .i64 d.Commit) := by simpa using hG.mid hlk (j := 3) rfl
  refine ⟨g, c9, by rw [← hAA]; exact hB.mid ho (j := 9) rfl, by simp [hgf], q0, hG.frozen _, fun x => ?_⟩
  have T := (Turn.refl [g] w).set (p := ⟨g, 3, none⟩) (by simp) (.int .i64 x)
  have K := hG.set hlk (j := 3) (by simp) (.int .i64 x)
  simp only [Nat.zero_add, List.set_cons_zero, List.set_cons_succ] at K
  have hkeep : ∀ y, y ≠ g → (w.setCell ⟨g, 3, none⟩ (.int .i64 x)).heap[y]? = w.heap[y]? := fun y hy => set_block w g 3 _ y hy
  have ndg : ∀ y, y ∈ f1 ∨ y ∈ f2 → y ≠ g := fun y hy e => by
    subst e
    rw [hf] at nj
    have := (List.nodup_cons.1 nj).1
    simp only [List.mem_append] at this
    grind
  have ndq : ∀ y ∈ fe, y ∉ [g] := fun y hy hm => by
    simp at hm; subst hm
    rw [hf] at nj
    have := (List.nodup_cons.1 nj).1
    simp only [List.mem_append] at this
    grind
  have OX := hback (w.setCell ⟨g, 3, none⟩ (.int .i64 x)) fe _ { d with Commit := x } K (kDoer_ownmk { d with Commit := x } (h2 := hol.turn T ndq)) (fun y hy => hkeep y (ndg y hy))
  have hd : ∀ (f : List Nat), (∀ y ∈ f, y ∈ f5 ++ (f7 ++ (f8 ++ f9)) ∧ y ∉ f9) → ∀ y ∈ f, y ∉ [g] := fun f hf' y hy hm => by
    simp at hm; subst hm; exact (hf' _ hy).2 hgf
  have nd4 := nd
  simp only [List.nodup_append, List.mem_append] at nd4
  refine ⟨A5, c5, A7, c7, A8, c8, A9, c9, f5, f7, f8, f9, rfl, ?_, ⟨?_, ?_, ?_, ?_, nd⟩, hn, ho, Nat.le_trans hs T.size⟩
  · have := hB.set_ne (a := ⟨g, 3, none⟩) (by exact hgb) (.int .i64 x)
    rw [hds] at this
    simpa using this
  · exact h5.turn T (hd f5 (fun y hy => ⟨by simp [hy], fun h => by grind⟩))
  · exact h7.turn T (hd f7 (fun y hy => ⟨by simp [hy], fun h => by grind⟩))
  · exact h8.turn T (hd f8 (fun y hy => ⟨by simp [hy], fun h => by grind⟩))
  · rw [hf, hA]
    exact OX
end Go.Proofs.YtdjfehjddfbbjaaGreat
