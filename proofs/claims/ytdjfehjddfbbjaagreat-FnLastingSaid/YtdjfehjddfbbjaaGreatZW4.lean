/- A node in its box: id and size set, rows grown by append (written by gW4.py, own work). -/
import Derived.Test.YtdjfehjddfbbjaaGreatZP1
import Derived.Test.YtdjfehjddfbbjaaGreatZW3
set_option linter.unusedVariables false
set_option linter.unusedSimpArgs false
namespace Go.Proofs.YtdjfehjddfbbjaaGreat
open Go Go.RowKit Mk
section
variable {b o : Nat} {e : TypeId} {pr po : List Value} {B : Nat} {n : SReplica} {fp fq : List Nat} {w w' : World}
theorem RepBox.setId (h : RepBox b o e pr po B n fp w) (x : Int) : RepBox b o e pr po B { n with Id := x } fp (w.setCell ⟨b, o + 0, none⟩ (.int .i64 x)) := by
  obtain ⟨A5, c5, A7, c7, A8, c8, A9, c9, f5, f7, f8, f9, rfl, hB, ⟨h5, h7, h8, h9, nd⟩, hn, ho, hs⟩ := h
  have T := (Turn.refl [b] w).set (p := ⟨b, o + 0, none⟩) (by simp) (.int .i64 x)
  have K := hB.set ho (j := 0) (by simp) (.int .i64 x)
  generalize w.setCell ⟨b, o + 0, none⟩ (.int .i64 x) = W at T K ⊢
  have hd : ∀ y ∈ f5 ++ (f7 ++ (f8 ++ f9)), y ∉ [b] := fun y hy hm => hn (by simp at hm; exact hm ▸ hy)
  exact ⟨A5, c5, A7, c7, A8, c8, A9, c9, f5, f7, f8, f9, rfl, K, ⟨h5.turn T (fun y hy => hd y (by simp [hy])), h7.turn T (fun y hy => hd y (by simp [hy])), h8.turn T (fun y hy => hd y (by simp [hy])), h9.turn T (fun y hy => hd y (by simp [hy])), nd⟩, hn, ho, Nat.le_trans hs T.size⟩
theorem RepBox.setSize (h : RepBox b o e pr po B n fp w) (x : Int) : RepBox b o e pr po B { n with Size := x } fp (w.setCell ⟨b, o + 1, none⟩ (.int .i64 x)) := by
  obtain ⟨A5, c5, A7, c7, A8, c8, A9, c9, f5, f7, f8, f9, rfl, hB, ⟨h5, h7, h8, h9, nd⟩, hn, ho, hs⟩ := h
  have T := (Turn.refl [b] w).set (p := ⟨b, o + 1, none⟩) (by simp) (.int .i64 x)
  have K := hB.set ho (j := 1) (by simp) (.int .i64 x)
  generalize w.setCell ⟨b, o + 1, none⟩ (.int .i64 x) = W at T K ⊢
  have hd : ∀ y ∈ f5 ++ (f7 ++ (f8 ++ f9)), y ∉ [b] := fun y hy hm => hn (by simp at hm; exact hm ▸ hy)
  exact ⟨A5, c5, A7, c7, A8, c8, A9, c9, f5, f7, f8, f9, rfl, K, ⟨h5.turn T (fun y hy => hd y (by simp [hy])), h7.turn T (fun y hy => hd y (by simp [hy])), h8.turn T (fun y hy => hd y (by simp [hy])), h9.turn T (fun y hy => hd y (by simp [hy])), nd⟩, hn, ho, Nat.le_trans hs T.size⟩
theorem RepBox.growOks (h : RepBox b o e pr po B n fp w) : ∃ (A : Option Addr) (c : Nat) (f : List Nat), w.cell? ⟨b, o + 7, none⟩ = some (.slice A n.Oks.length c) ∧ OwnS kInt 2 B w f (.slice A n.Oks.length c) n.Oks ∧ f.Nodup ∧ (∀ y ∈ f, y ∈ fp) ∧
    ∀ (w1 w' : World) (fq fs fp' : List Nat) (A' : Option Addr) (c' : Nat) (xs : List Int), Turn fq w w1 → b ∉ fq → (∀ y ∈ fp, y ∉ fq) → (∀ y ∈ fs, w.heap.size ≤ y) → Grew kInt 2 B w1 f fs (.slice A' xs.length c') w' fp' xs →
      ∃ fp2, RepBox b o e pr po B { n with Oks := xs } fp2 (w'.setCell ⟨b, o + 7, none⟩ (.slice A' xs.length c')) ∧ ∀ y ∈ fp2, y ∈ fp ∨ w.heap.size ≤ y := by
  have hin := h.in
  have hbl := h.lt
  obtain ⟨A5, c5, A7, c7, A8, c8, A9, c9, f5, f7, f8, f9, rfl, hB, ⟨h5, h7, h8, h9, nd⟩, hn, ho, hs⟩ := h
  have hc : w.cell? ⟨b, o + 7, none⟩ = some (.slice A7 n.Oks.length c7) := by
    subst ho
    exact hB.cell (j := pr.length + 7) (by rw [List.append_assoc, List.getElem?_append_right (by omega)]; simp)
  refine ⟨A7, c7, f7, hc, h7, by simp only [List.nodup_append] at nd; grind, fun y hy => by simp [hy], ?_⟩
  intro w1 w' fq fs fp' A' c' xs T1 hbq hfq hfs ⟨g1, g2, g3, g4⟩
  have s1 := T1.size
  have hd1 : ∀ y ∈ f5 ++ (f7 ++ (f8 ++ f9)), y ∉ fq := hfq
  have hbf : b ∉ f7 := fun hm => hn (by simp [hm])
  have K1 := (hB.turn T1 hbq).turn g3 hbf
  have T := (Turn.refl [b] w').set (p := ⟨b, o + 7, none⟩) (by simp) (.slice A' xs.length c')
  have K := K1.set ho (j := 7) (by simp) (.slice A' xs.length c')
  have hd : ∀ y ∈ f5 ++ (f7 ++ (f8 ++ f9)), y ∉ [b] := fun y hy hm => hn (by simp at hm; exact hm ▸ hy)
  have hnb : b ∉ fp' := fun hm => by
    rcases g4 b hm with h | h | h
    · exact hbf h
    · have := hfs b h; omega
    · omega
  have hd2 : ∀ y ∈ fp', y ∉ [b] := fun y hy hm => hnb (by simp at hm; exact hm ▸ hy)
  have hg : ∀ y ∈ fp', y ∈ f7 ∨ w.heap.size ≤ y := fun y hy => by
    rcases g4 y hy with h | h | h
    · exact .inl h
    · exact .inr (hfs y h)
    · right; omega
  have hlt : ∀ y ∈ f5 ++ (f7 ++ (f8 ++ f9)), y < w.heap.size := fun y hy => (hin y hy).2
  have hdj5 : ∀ y ∈ f5, y ∉ f7 := by
    simp only [List.nodup_append, List.mem_append] at nd
    grind
  have hdj8 : ∀ y ∈ f8, y ∉ f7 := by
    simp only [List.nodup_append, List.mem_append] at nd
    grind
  have hdj9 : ∀ y ∈ f9, y ∉ f7 := by
    simp only [List.nodup_append, List.mem_append] at nd
    grind
  have nn : (f5 ++ (fp' ++ (f8 ++ f9))).Nodup := by
    simp only [List.nodup_append, List.mem_append] at nd hlt ⊢
    grind
  generalize w'.setCell ⟨b, o + 7, none⟩ (.slice A' xs.length c') = W at T K ⊢
  refine ⟨f5 ++ (fp' ++ (f8 ++ f9)), ⟨A5, c5, A', c', A8, c8, A9, c9, f5, fp', f8, f9, rfl, K, ⟨(h5.turn T1 (fun y hy => hd1 y (by simp [hy]))).turn g3 (fun y hy hm => hdj5 y hy hm) |>.turn T (fun y hy => hd y (by simp [hy])), g1.turn T hd2, (h8.turn T1 (fun y hy => hd1 y (by simp [hy]))).turn g3 (fun y hy hm => hdj8 y hy hm) |>.turn T (fun y hy => hd y (by simp [hy])), (h9.turn T1 (fun y hy => hd1 y (by simp [hy]))).turn g3 (fun y hy hm => hdj9 y hy hm) |>.turn T (fun y hy => hd y (by simp [hy])), nn⟩, ?_, ho, Nat.le_trans (Nat.le_trans hs (Nat.le_trans s1 g3.size)) T.size⟩, ?_⟩
  · simp only [List.mem_append, not_or] at hn ⊢
    grind
  · intro y hy
    simp only [List.mem_append] at hy ⊢
    grind
theorem RepBox.growAsks (h : RepBox b o e pr po B n fp w) : ∃ (A : Option Addr) (c : Nat) (f : List Nat), w.cell? ⟨b, o + 8, none⟩ = some (.slice A n.Asks.length c) ∧ OwnS kBool 4 B w f (.slice A n.Asks.length c) n.Asks ∧ f.Nodup ∧ (∀ y ∈ f, y ∈ fp) ∧
    ∀ (w1 w' : World) (fq fs fp' : List Nat) (A' : Option Addr) (c' : Nat) (xs : List Bool), Turn fq w w1 → b ∉ fq → (∀ y ∈ fp, y ∉ fq) → (∀ y ∈ fs, w.heap.size ≤ y) → Grew kBool 4 B w1 f fs (.slice A' xs.length c') w' fp' xs →
      ∃ fp2, RepBox b o e pr po B { n with Asks := xs } fp2 (w'.setCell ⟨b, o + 8, none⟩ (.slice A' xs.length c')) ∧ ∀ y ∈ fp2, y ∈ fp ∨ w.heap.size ≤ y := by
  have hin := h.in
  have hbl := h.lt
  obtain ⟨A5, c5, A7, c7, A8, c8, A9, c9, f5, f7, f8, f9, rfl, hB, ⟨h5, h7, h8, h9, nd⟩, hn, ho, hs⟩ := h
  have hc : w.cell? ⟨b, o + 8, none⟩ = some (.slice A8 n.Asks.length c8) := by
    subst ho
    exact hB.cell (j := pr.length + 8) (by rw [List.append_assoc, List.getElem?_append_right (by omega)]; simp)
  refine ⟨A8, c8, f8, hc, h8, by simp only [List.nodup_append] at nd; grind, fun y hy => by simp [hy], ?_⟩
  intro w1 w' fq fs fp' A' c' xs T1 hbq hfq hfs ⟨g1, g2, g3, g4⟩
  have s1 := T1.size
  have hd1 : ∀ y ∈ f5 ++ (f7 ++ (f8 ++ f9)), y ∉ fq := hfq
  have hbf : b ∉ f8 := fun hm => hn (by simp [hm])
  have K1 := (hB.turn T1 hbq).turn g3 hbf
  have T := (Turn.refl [b] w').set (p := ⟨b, o + 8, none⟩) (by simp) (.slice A' xs.length c')
  have K := K1.set ho (j := 8) (by simp) (.slice A' xs.length c')
  have hd : ∀ y ∈ f5 ++ (f7 ++ (f8 ++ f9)), y ∉ [b] := fun y hy hm => hn (by simp at hm; exact hm ▸ hy)
  have hnb : b ∉ fp' := fun hm => by
    rcases g4 b hm with h | h | h
    · exact hbf h
    · have := hfs b h; omega
    · omega
  have hd2 : ∀ y ∈ fp', y ∉ [b] := fun y hy hm => hnb (by simp at hm; exact hm ▸ hy)
  have hg : ∀ y ∈ fp', y ∈ f8 ∨ w.heap.size ≤ y := fun y hy => by
    rcases g4 y hy with h | h | h
    · exact .inl h
    · exact .inr (hfs y h)
    · right; omega
  have hlt : ∀ y ∈ f5 ++ (f7 ++ (f8 ++ f9)), y < w.heap.size := fun y hy => (hin y hy).2
  have hdj5 : ∀ y ∈ f5, y ∉ f8 := by
    simp only [List.nodup_append, List.mem_append] at nd
    grind
  have hdj7 : ∀ y ∈ f7, y ∉ f8 := by
    simp only [List.nodup_append, List.mem_append] at nd
    grind
  have hdj9 : ∀ y ∈ f9, y ∉ f8 := by
    simp only [List.nodup_append, List.mem_append] at nd
    grind
  have nn : (f5 ++ (f7 ++ (fp' ++ f9))).Nodup := by
    simp only [List.nodup_append, List.mem_append] at nd hlt ⊢
    grind
  generalize w'.setCell ⟨b, o + 8, none⟩ (.slice A' xs.length c') = W at T K ⊢
  refine ⟨f5 ++ (f7 ++ (fp' ++ f9)), ⟨A5, c5, A7, c7, A', c', A9, c9, f5, f7, fp', f9, rfl, K, ⟨(h5.turn T1 (fun y hy => hd1 y (by simp [hy]))).turn g3 (fun y hy hm => hdj5 y hy hm) |>.turn T (fun y hy => hd y (by simp [hy])), (h7.turn T1 (fun y hy => hd1 y (by simp [hy]))).turn g3 (fun y hy hm => hdj7 y hy hm) |>.turn T (fun y hy => hd y (by simp [hy])), g1.turn T hd2, (h9.turn T1 (fun y hy => hd1 y (by simp [hy]))).turn g3 (fun y hy hm => hdj9 y hy hm) |>.turn T (fun y hy => hd y (by simp [hy])), nn⟩, ?_, ho, Nat.le_trans (Nat.le_trans hs (Nat.le_trans s1 g3.size)) T.size⟩, ?_⟩
  · simp only [List.mem_append, not_or] at hn ⊢
    grind
  · intro y hy
    simp only [List.mem_append] at hy ⊢
    grind
theorem RepBox.growDoers (h : RepBox b o e pr po B n fp w) : ∃ (A : Option Addr) (c : Nat) (f : List Nat), w.cell? ⟨b, o + 9, none⟩ = some (.slice A n.Doers.length c) ∧ OwnS kDoer 70 B w f (.slice A n.Doers.length c) n.Doers ∧ f.Nodup ∧ (∀ y ∈ f, y ∈ fp) ∧
    ∀ (w1 w' : World) (fq fs fp' : List Nat) (A' : Option Addr) (c' : Nat) (xs : List SDoer), Turn fq w w1 → b ∉ fq → (∀ y ∈ fp, y ∉ fq) → (∀ y ∈ fs, w.heap.size ≤ y) → Grew kDoer 70 B w1 f fs (.slice A' xs.length c') w' fp' xs →
      ∃ fp2, RepBox b o e pr po B { n with Doers := xs } fp2 (w'.setCell ⟨b, o + 9, none⟩ (.slice A' xs.length c')) ∧ ∀ y ∈ fp2, y ∈ fp ∨ w.heap.size ≤ y := by
  have hin := h.in
  have hbl := h.lt
  obtain ⟨A5, c5, A7, c7, A8, c8, A9, c9, f5, f7, f8, f9, rfl, hB, ⟨h5, h7, h8, h9, nd⟩, hn, ho, hs⟩ := h
  have hc : w.cell? ⟨b, o + 9, none⟩ = some (.slice A9 n.Doers.length c9) := by
    subst ho
    exact hB.cell (j := pr.length + 9) (by rw [List.append_assoc, List.getElem?_append_right (by omega)]; simp)
  refine ⟨A9, c9, f9, hc, h9, by simp only [List.nodup_append] at nd; grind, fun y hy => by simp [hy], ?_⟩
  intro w1 w' fq fs fp' A' c' xs T1 hbq hfq hfs ⟨g1, g2, g3, g4⟩
  have s1 := T1.size
  have hd1 : ∀ y ∈ f5 ++ (f7 ++ (f8 ++ f9)), y ∉ fq := hfq
  have hbf : b ∉ f9 := fun hm => hn (by simp [hm])
  have K1 := (hB.turn T1 hbq).turn g3 hbf
  have T := (Turn.refl [b] w').set (p := ⟨b, o + 9, none⟩) (by simp) (.slice A' xs.length c')
  have K := K1.set ho (j := 9) (by simp) (.slice A' xs.length c')
  have hd : ∀ y ∈ f5 ++ (f7 ++ (f8 ++ f9)), y ∉ [b] := fun y hy hm => hn (by simp at hm; exact hm ▸ hy)
  have hnb : b ∉ fp' := fun hm => by
    rcases g4 b hm with h | h | h
    · exact hbf h
    · have := hfs b h; omega
    · omega
  have hd2 : ∀ y ∈ fp', y ∉ [b] := fun y hy hm => hnb (by simp at hm; exact hm ▸ hy)
  have hg : ∀ y ∈ fp', y ∈ f9 ∨ w.heap.size ≤ y := fun y hy => by
    rcases g4 y hy with h | h | h
    · exact .inl h
    · exact .inr (hfs y h)
    · right; omega
  have hlt : ∀ y ∈ f5 ++ (f7 ++ (f8 ++ f9)), y < w.heap.size := fun y hy => (hin y hy).2
  have hdj5 : ∀ y ∈ f5, y ∉ f9 := by
    simp only [List.nodup_append, List.mem_append] at nd
    grind
  have hdj7 : ∀ y ∈ f7, y ∉ f9 := by
    simp only [List.nodup_append, List.mem_append] at nd
    grind
  have hdj8 : ∀ y ∈ f8, y ∉ f9 := by
    simp only [List.nodup_append, List.mem_append] at nd
    grind
  have nn : (f5 ++ (f7 ++ (f8 ++ fp'))).Nodup := by
    simp only [List.nodup_append, List.mem_append] at nd hlt ⊢
    grind
  generalize w'.setCell ⟨b, o + 9, none⟩ (.slice A' xs.length c') = W at T K ⊢
  refine ⟨f5 ++ (f7 ++ (f8 ++ fp')), ⟨A5, c5, A7, c7, A8, c8, A', c', f5, f7, f8, fp', rfl, K, ⟨(h5.turn T1 (fun y hy => hd1 y (by simp [hy]))).turn g3 (fun y hy hm => hdj5 y hy hm) |>.turn T (fun y hy => hd y (by simp [hy])), (h7.turn T1 (fun y hy => hd1 y (by simp [hy]))).turn g3 (fun y hy hm => hdj7 y hy hm) |>.turn T (fun y hy => hd y (by simp [hy])), (h8.turn T1 (fun y hy => hd1 y (by simp [hy]))).turn g3 (fun y hy hm => hdj8 y hy hm) |>.turn T (fun y hy => hd y (by simp [hy])), g1.turn T hd2, nn⟩, ?_, ho, Nat.le_trans (Nat.le_trans hs (Nat.le_trans s1 g3.size)) T.size⟩, ?_⟩
  · simp only [List.mem_append, not_or] at hn ⊢
    grind
  · intro y hy
    simp only [List.mem_append] at hy ⊢
    grind
end
end Go.Proofs.YtdjfehjddfbbjaaGreat
