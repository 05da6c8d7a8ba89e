/- A node in a box: a struct with rows that lies somewhere in a block, owned whole; how it turns (written by gP1.py, own work). -/
import Derived.Test.YtdjfehjddfbbjaaGreatZO1
import Derived.Test.YtdjfehjddfbbjaaGreatZP0
set_option linter.unusedVariables false
set_option linter.unusedSimpArgs false
namespace Go.Proofs.YtdjfehjddfbbjaaGreat
open Go Go.RowKit Mk
/-- The node n lies in the block b from o on (pr ahead of it, po behind it); all that it leads to is owned: the blocks fp. -/
def RepBox (b o : Nat) (e : TypeId) (pr po : List Value) (B : Nat) (n : SReplica) (fp : List Nat) (w : World) : Prop :=
  ∃ (A5 : Option Addr) (c5 : Nat) (A7 : Option Addr) (c7 : Nat) (A8 : Option Addr) (c8 : Nat) (A9 : Option Addr) (c9 : Nat) (f5 f7 f8 f9 : List Nat), fp = f5 ++ (f7 ++ (f8 ++ f9)) ∧ Blk w b e (pr ++ [.int .i64 n.Id, .int .i64 n.Size, .int .i64 n.View, .bool n.Normal, .int .i64 n.Last, .slice A5 n.Log.length c5, .int .i64 n.Commit, .slice A7 n.Oks.length c7, .slice A8 n.Asks.length c8, .slice A9 n.Doers.length c9] ++ po) ∧ HasReplica B w n A5 c5 A7 c7 A8 c8 A9 c9 f5 f7 f8 f9 ∧ b ∉ fp ∧ pr.length = o ∧ B ≤ w.heap.size
section
variable {b o : Nat} {e : TypeId} {pr po : List Value} {B : Nat} {n : SReplica} {fp fq : List Nat} {w w' : World}
theorem RepBox.turn (h : RepBox b o e pr po B n fp w) (t : Turn fq w w') (hb : b ∉ fq) (hd : ∀ y ∈ fp, y ∉ fq) : RepBox b o e pr po B n fp w' := by
  obtain ⟨A5, c5, A7, c7, A8, c8, A9, c9, f5, f7, f8, f9, rfl, hB, ⟨h5, h7, h8, h9, nd⟩, hn, ho, hs⟩ := h
  exact ⟨A5, c5, A7, c7, A8, c8, A9, c9, f5, f7, f8, f9, rfl, hB.turn t hb, ⟨h5.turn t (fun y hy => hd y (by simp [hy])), h7.turn t (fun y hy => hd y (by simp [hy])), h8.turn t (fun y hy => hd y (by simp [hy])), h9.turn t (fun y hy => hd y (by simp [hy])), nd⟩, hn, ho, Nat.le_trans hs t.size⟩
theorem RepBox.below (h : RepBox b o e pr po B n fp w) (hb : Below w.heap.size w w') : RepBox b o e pr po B n fp w' := h.turn (Turn.of_below (fp := []) hb) (by simp) (by simp)
theorem RepBox.at (h : RepBox b o e pr po B n fp w) : At kReplica w ⟨b, o, none⟩ n := by
  obtain ⟨A5, c5, A7, c7, A8, c8, A9, c9, f5, f7, f8, f9, rfl, hB, ⟨h5, h7, h8, h9, nd⟩, hn, ho, hs⟩ := h
  exact ⟨_, hB.liesMid ho, kReplica_mk w n (ownS_rds h5).1 (ownS_rds h7).1 (ownS_rds h8).1 (ownS_rds h9).1⟩
theorem RepBox.frozen (h : RepBox b o e pr po B n fp w) (j : Nat) : w.frozen? ⟨b, o + j, none⟩ = false := by
  obtain ⟨A5, c5, A7, c7, A8, c8, A9, c9, f5, f7, f8, f9, rfl, hB, ⟨h5, h7, h8, h9, nd⟩, hn, ho, hs⟩ := h
  exact hB.frozen _
theorem RepBox.lt (h : RepBox b o e pr po B n fp w) : b < w.heap.size := by
  obtain ⟨A5, c5, A7, c7, A8, c8, A9, c9, f5, f7, f8, f9, rfl, hB, ⟨h5, h7, h8, h9, nd⟩, hn, ho, hs⟩ := h
  exact hB.lt
theorem RepBox.nb (h : RepBox b o e pr po B n fp w) : b ∉ fp := by
  obtain ⟨A5, c5, A7, c7, A8, c8, A9, c9, f5, f7, f8, f9, rfl, hB, ⟨h5, h7, h8, h9, nd⟩, hn, ho, hs⟩ := h
  exact hn
theorem RepBox.nd (h : RepBox b o e pr po B n fp w) : fp.Nodup := by
  obtain ⟨A5, c5, A7, c7, A8, c8, A9, c9, f5, f7, f8, f9, rfl, hB, ⟨h5, h7, h8, h9, nd⟩, hn, ho, hs⟩ := h
  exact nd
theorem RepBox.bs (h : RepBox b o e pr po B n fp w) : B ≤ w.heap.size := by
  obtain ⟨A5, c5, A7, c7, A8, c8, A9, c9, f5, f7, f8, f9, rfl, hB, ⟨h5, h7, h8, h9, nd⟩, hn, ho, hs⟩ := h
  exact hs
theorem RepBox.in (h : RepBox b o e pr po B n fp w) : ∀ y ∈ fp, B ≤ y ∧ y < w.heap.size := by
  obtain ⟨A5, c5, A7, c7, A8, c8, A9, c9, f5, f7, f8, f9, rfl, hB, ⟨h5, h7, h8, h9, nd⟩, hn, ho, hs⟩ := h
  intro y hy
  simp only [List.mem_append] at hy
  rcases hy with hy | hy | hy | hy
  · exact h5.in y hy
  · exact h7.in y hy
  · exact h8.in y hy
  · exact h9.in y hy
theorem RepBox.lift (h : RepBox b o e pr po B n fp w) {B' : Nat} (hb : ∀ y ∈ fp, B' ≤ y) (hw : B' ≤ w.heap.size) : RepBox b o e pr po B' n fp w := by
  obtain ⟨A5, c5, A7, c7, A8, c8, A9, c9, f5, f7, f8, f9, rfl, hB, ⟨h5, h7, h8, h9, nd⟩, hn, ho, hs⟩ := h
  exact ⟨A5, c5, A7, c7, A8, c8, A9, c9, f5, f7, f8, f9, rfl, hB, ⟨h5.lift (fun y hy => hb y (by simp [hy])), h7.lift (fun y hy => hb y (by simp [hy])), h8.lift (fun y hy => hb y (by simp [hy])), h9.lift (fun y hy => hb y (by simp [hy])), nd⟩, hn, ho, hw⟩
theorem RepBox.setView (h : RepBox b o e pr po B n fp w) (x : Int) : RepBox b o e pr po B { n with View := x } fp (w.setCell ⟨b, o + 2, none⟩ (.int .i64 x)) := by
  obtain ⟨A5, c5, A7, c7, A8, c8, A9, c9, f5, f7, f8, f9, rfl, hB, ⟨h5, h7, h8, h9, nd⟩, hn, ho, hs⟩ := h
  have T := (Turn.refl [b] w).set (p := ⟨b, o + 2, none⟩) (by simp) (.int .i64 x)
  have K := hB.set ho (j := 2) (by simp) (.int .i64 x)
  generalize w.setCell ⟨b, o + 2, none⟩ (.int .i64 x) = W at T K ⊢
  have hd : ∀ y ∈ f5 ++ (f7 ++ (f8 ++ f9)), y ∉ [b] := fun y hy hm => hn (by simp at hm; exact hm ▸ hy)
  exact ⟨A5, c5, A7, c7, A8, c8, A9, c9, f5, f7, f8, f9, rfl, K, ⟨h5.turn T (fun y hy => hd y (by simp [hy])), h7.turn T (fun y hy => hd y (by simp [hy])), h8.turn T (fun y hy => hd y (by simp [hy])), h9.turn T (fun y hy => hd y (by simp [hy])), nd⟩, hn, ho, Nat.le_trans hs T.size⟩
theorem RepBox.setNormal (h : RepBox b o e pr po B n fp w) (x : Bool) : RepBox b o e pr po B { n with Normal := x } fp (w.setCell ⟨b, o + 3, none⟩ (.bool x)) := by
  obtain ⟨A5, c5, A7, c7, A8, c8, A9, c9, f5, f7, f8, f9, rfl, hB, ⟨h5, h7, h8, h9, nd⟩, hn, ho, hs⟩ := h
  have T := (Turn.refl [b] w).set (p := ⟨b, o + 3, none⟩) (by simp) (.bool x)
  have K := hB.set ho (j := 3) (by simp) (.bool x)
  generalize w.setCell ⟨b, o + 3, none⟩ (.bool x) = W at T K ⊢
  have hd : ∀ y ∈ f5 ++ (f7 ++ (f8 ++ f9)), y ∉ [b] := fun y hy hm => hn (by simp at hm; exact hm ▸ hy)
  exact ⟨A5, c5, A7, c7, A8, c8, A9, c9, f5, f7, f8, f9, rfl, K, ⟨h5.turn T (fun y hy => hd y (by simp [hy])), h7.turn T (fun y hy => hd y (by simp [hy])), h8.turn T (fun y hy => hd y (by simp [hy])), h9.turn T (fun y hy => hd y (by simp [hy])), nd⟩, hn, ho, Nat.le_trans hs T.size⟩
theorem RepBox.setLast (h : RepBox b o e pr po B n fp w) (x : Int) : RepBox b o e pr po B { n with Last := x } fp (w.setCell ⟨b, o + 4, none⟩ (.int .i64 x)) := by
  obtain ⟨A5, c5, A7, c7, A8, c8, A9, c9, f5, f7, f8, f9, rfl, hB, ⟨h5, h7, h8, h9, nd⟩, hn, ho, hs⟩ := h
  have T := (Turn.refl [b] w).set (p := ⟨b, o + 4, none⟩) (by simp) (.int .i64 x)
  have K := hB.set ho (j := 4) (by simp) (.int .i64 x)
  generalize w.setCell ⟨b, o + 4, none⟩ (.int .i64 x) = W at T K ⊢
  have hd : ∀ y ∈ f5 ++ (f7 ++ (f8 ++ f9)), y ∉ [b] := fun y hy hm => hn (by simp at hm; exact hm ▸ hy)
  exact ⟨A5, c5, A7, c7, A8, c8, A9, c9, f5, f7, f8, f9, rfl, K, ⟨h5.turn T (fun y hy => hd y (by simp [hy])), h7.turn T (fun y hy => hd y (by simp [hy])), h8.turn T (fun y hy => hd y (by simp [hy])), h9.turn T (fun y hy => hd y (by simp [hy])), nd⟩, hn, ho, Nat.le_trans hs T.size⟩
theorem RepBox.setCommit (h : RepBox b o e pr po B n fp w) (x : Int) : RepBox b o e pr po B { n with Commit := x } fp (w.setCell ⟨b, o + 6, none⟩ (.int .i64 x)) := by
  obtain ⟨A5, c5, A7, c7, A8, c8, A9, c9, f5, f7, f8, f9, rfl, hB, ⟨h5, h7, h8, h9, nd⟩, hn, ho, hs⟩ := h
  have T := (Turn.refl [b] w).set (p := ⟨b, o + 6, none⟩) (by simp) (.int .i64 x)
  have K := hB.set ho (j := 6) (by simp) (.int .i64 x)
  generalize w.setCell ⟨b, o + 6, none⟩ (.int .i64 x) = W at T K ⊢
  have hd : ∀ y ∈ f5 ++ (f7 ++ (f8 ++ f9)), y ∉ [b] := fun y hy hm => hn (by simp at hm; exact hm ▸ hy)
  exact ⟨A5, c5, A7, c7, A8, c8, A9, c9, f5, f7, f8, f9, rfl, K, ⟨h5.turn T (fun y hy => hd y (by simp [hy])), h7.turn T (fun y hy => hd y (by simp [hy])), h8.turn T (fun y hy => hd y (by simp [hy])), h9.turn T (fun y hy => hd y (by simp [hy])), nd⟩, hn, ho, Nat.le_trans hs T.size⟩
theorem RepBox.setLog (h : RepBox b o e pr po B n fp w) {A : Option Addr} {c : Nat} {fl : List Nat} {xs : List SEntry} (hl : OwnS kEntry 49 B w fl (.slice A xs.length c) xs) (nl : fl.Nodup) (hf : ∀ y ∈ fl, y ∉ fp ∧ y ≠ b) :
    ∃ fp', RepBox b o e pr po B { n with Log := xs } fp' (w.setCell ⟨b, o + 5, none⟩ (.slice A xs.length c)) ∧ ∀ y ∈ fp', y ∈ fp ∨ y ∈ fl := by
  obtain ⟨A5, c5, A7, c7, A8, c8, A9, c9, f5, f7, f8, f9, rfl, hB, ⟨h5, h7, h8, h9, nd⟩, hn, ho, hs⟩ := h
  have T := (Turn.refl [b] w).set (p := ⟨b, o + 5, none⟩) (by simp) (.slice A xs.length c)
  have K := hB.set ho (j := 5) (by simp) (.slice A xs.length c)
  generalize w.setCell ⟨b, o + 5, none⟩ (.slice A xs.length c) = W at T K ⊢
  have hd : ∀ y ∈ f5 ++ (f7 ++ (f8 ++ f9)), y ∉ [b] := fun y hy hm => hn (by simp at hm; exact hm ▸ hy)
  have hd2 : ∀ y ∈ fl, y ∉ [b] := fun y hy hm => (hf y hy).2 (by simpa using hm)
  have nn : (fl ++ (f7 ++ (f8 ++ f9))).Nodup := by
    simp only [List.nodup_append, List.mem_append] at nd hf ⊢
    grind
  refine ⟨fl ++ (f7 ++ (f8 ++ f9)), ⟨A, c, A7, c7, A8, c8, A9, c9, fl, f7, f8, f9, rfl, K, ⟨hl.turn T hd2, h7.turn T (fun y hy => hd y (by simp [hy])), h8.turn T (fun y hy => hd y (by simp [hy])), h9.turn T (fun y hy => hd y (by simp [hy])), nn⟩, ?_, ho, Nat.le_trans hs T.size⟩, ?_⟩
  · simp only [List.mem_append, not_or] at hn ⊢
    grind
  · intro y hy
    simp only [List.mem_append] at hy ⊢
    grind
theorem RepBox.setOks (h : RepBox b o e pr po B n fp w) {A : Option Addr} {c : Nat} {fl : List Nat} {xs : List Int} (hl : OwnS kInt 2 B w fl (.slice A xs.length c) xs) (nl : fl.Nodup) (hf : ∀ y ∈ fl, y ∉ fp ∧ y ≠ b) :
    ∃ fp', RepBox b o e pr po B { n with Oks := xs } fp' (w.setCell ⟨b, o + 7, none⟩ (.slice A xs.length c)) ∧ ∀ y ∈ fp', y ∈ fp ∨ y ∈ fl := by
  obtain ⟨A5, c5, A7, c7, A8, c8, A9, c9, f5, f7, f8, f9, rfl, hB, ⟨h5, h7, h8, h9, nd⟩, hn, ho, hs⟩ := h
  have T := (Turn.refl [b] w).set (p := ⟨b, o + 7, none⟩) (by simp) (.slice A xs.length c)
  have K := hB.set ho (j := 7) (by simp) (.slice A xs.length c)
  generalize w.setCell ⟨b, o + 7, none⟩ (.slice A xs.length c) = W at T K ⊢
  have hd : ∀ y ∈ f5 ++ (f7 ++ (f8 ++ f9)), y ∉ [b] := fun y hy hm => hn (by simp at hm; exact hm ▸ hy)
  have hd2 : ∀ y ∈ fl, y ∉ [b] := fun y hy hm => (hf y hy).2 (by simpa using hm)
  have nn : (f5 ++ (fl ++ (f8 ++ f9))).Nodup := by
    simp only [List.nodup_append, List.mem_append] at nd hf ⊢
    grind
  refine ⟨f5 ++ (fl ++ (f8 ++ f9)), ⟨A5, c5, A, c, A8, c8, A9, c9, f5, fl, f8, f9, rfl, K, ⟨h5.turn T (fun y hy => hd y (by simp [hy])), hl.turn T hd2, h8.turn T (fun y hy => hd y (by simp [hy])), h9.turn T (fun y hy => hd y (by simp [hy])), nn⟩, ?_, ho, Nat.le_trans hs T.size⟩, ?_⟩
  · simp only [List.mem_append, not_or] at hn ⊢
    grind
  · intro y hy
    simp only [List.mem_append] at hy ⊢
    grind
theorem RepBox.setAsks (h : RepBox b o e pr po B n fp w) {A : Option Addr} {c : Nat} {fl : List Nat} {xs : List Bool} (hl : OwnS kBool 4 B w fl (.slice A xs.length c) xs) (nl : fl.Nodup) (hf : ∀ y ∈ fl, y ∉ fp ∧ y ≠ b) :
    ∃ fp', RepBox b o e pr po B { n with Asks := xs } fp' (w.setCell ⟨b, o + 8, none⟩ (.slice A xs.length c)) ∧ ∀ y ∈ fp', y ∈ fp ∨ y ∈ fl := by
  obtain ⟨A5, c5, A7, c7, A8, c8, A9, c9, f5, f7, f8, f9, rfl, hB, ⟨h5, h7, h8, h9, nd⟩, hn, ho, hs⟩ := h
  have T := (Turn.refl [b] w).set (p := ⟨b, o + 8, none⟩) (by simp) (.slice A xs.length c)
  have K := hB.set ho (j := 8) (by simp) (.slice A xs.length c)
  generalize w.setCell ⟨b, o + 8, none⟩ (.slice A xs.length c) = W at T K ⊢
  have hd : ∀ y ∈ f5 ++ (f7 ++ (f8 ++ f9)), y ∉ [b] := fun y hy hm => hn (by simp at hm; exact hm ▸ hy)
  have hd2 : ∀ y ∈ fl, y ∉ [b] := fun y hy hm => (hf y hy).2 (by simpa using hm)
  have nn : (f5 ++ (f7 ++ (fl ++ f9))).Nodup := by
    simp only [List.nodup_append, List.mem_append] at nd hf ⊢
    grind
  refine ⟨f5 ++ (f7 ++ (fl ++ f9)), ⟨A5, c5, A7, c7, A, c, A9, c9, f5, f7, fl, f9, rfl, K, ⟨h5.turn T (fun y hy => hd y (by simp [hy])), h7.turn T (fun y hy => hd y (by simp [hy])), hl.turn T hd2, h9.turn T (fun y hy => hd y (by simp [hy])), nn⟩, ?_, ho, Nat.le_trans hs T.size⟩, ?_⟩
  · simp only [List.mem_append, not_or] at hn ⊢
    grind
  · intro y hy
    simp only [List.mem_append] at hy ⊢
    grind
theorem RepBox.setDoers (h : RepBox b o e pr po B n fp w) {A : Option Addr} {c : Nat} {fl : List Nat} {xs : List SDoer} (hl : OwnS kDoer 70 B w fl (.slice A xs.length c) xs) (nl : fl.Nodup) (hf : ∀ y ∈ fl, y ∉ fp ∧ y ≠ b) :
    ∃ fp', RepBox b o e pr po B { n with Doers := xs } fp' (w.setCell ⟨b, o + 9, none⟩ (.slice A xs.length c)) ∧ ∀ y ∈ fp', y ∈ fp ∨ y ∈ fl := by
  obtain ⟨A5, c5, A7, c7, A8, c8, A9, c9, f5, f7, f8, f9, rfl, hB, ⟨h5, h7, h8, h9, nd⟩, hn, ho, hs⟩ := h
  have T := (Turn.refl [b] w).set (p := ⟨b, o + 9, none⟩) (by simp) (.slice A xs.length c)
  have K := hB.set ho (j := 9) (by simp) (.slice A xs.length c)
  generalize w.setCell ⟨b, o + 9, none⟩ (.slice A xs.length c) = W at T K ⊢
  have hd : ∀ y ∈ f5 ++ (f7 ++ (f8 ++ f9)), y ∉ [b] := fun y hy hm => hn (by simp at hm; exact hm ▸ hy)
  have hd2 : ∀ y ∈ fl, y ∉ [b] := fun y hy hm => (hf y hy).2 (by simpa using hm)
  have nn : (f5 ++ (f7 ++ (f8 ++ fl))).Nodup := by
    simp only [List.nodup_append, List.mem_append] at nd hf ⊢
    grind
  refine ⟨f5 ++ (f7 ++ (f8 ++ fl)), ⟨A5, c5, A7, c7, A8, c8, A, c, f5, f7, f8, fl, rfl, K, ⟨h5.turn T (fun y hy => hd y (by simp [hy])), h7.turn T (fun y hy => hd y (by simp [hy])), h8.turn T (fun y hy => hd y (by simp [hy])), hl.turn T hd2, nn⟩, ?_, ho, Nat.le_trans hs T.size⟩, ?_⟩
  · simp only [List.mem_append, not_or] at hn ⊢
    grind
  · intro y hy
    simp only [List.mem_append] at hy ⊢
    grind
/-- How a node in its box turns: it is n' now; new blocks of its are new in memory. -/
def Moves (b o : Nat) (e : TypeId) (pr po : List Value) (B : Nat) (n' : SReplica) (fp : List Nat) (w w' : World) : Prop :=
  ∃ fp', RepBox b o e pr po B n' fp' w' ∧ Turn (b :: fp) w w' ∧ ∀ y ∈ fp', y ∈ fp ∨ w.heap.size ≤ y
theorem fresh_under {fp fp1 fp2 : List Nat} {w w1 : World} (hs : w.heap.size ≤ w1.heap.size) (h1 : ∀ y ∈ fp1, y ∈ fp ∨ w.heap.size ≤ y) (h2 : ∀ y ∈ fp2, y ∈ fp1 ∨ w1.heap.size ≤ y) : ∀ y ∈ fp2, y ∈ fp ∨ w.heap.size ≤ y := fun y hy => by
  rcases h2 y hy with h | h
  · exact h1 y h
  · right; omega
theorem Moves.stay (h : RepBox b o e pr po B n fp w) (hb : Below w.heap.size w w') : Moves b o e pr po B n fp w w' := ⟨fp, h.below hb, Turn.of_below hb, fun y hy => .inl hy⟩
theorem Moves.then {n' n'' : SReplica} {w1 : World} (h : Moves b o e pr po B n' fp w w1) (k : ∀ fp1, RepBox b o e pr po B n' fp1 w1 → Moves b o e pr po B n'' fp1 w1 w') : Moves b o e pr po B n'' fp w w' := by
  obtain ⟨fp1, h1, t1, f1⟩ := h
  obtain ⟨fp2, h2, t2, f2⟩ := k fp1 h1
  exact ⟨fp2, h2, t1.under t2 f1, fresh_under t1.size f1 f2⟩
theorem Moves.box (h : Moves b o e pr po B n fp w w') : ∃ fp', RepBox b o e pr po B n fp' w' ∧ Turn (b :: fp) w w' ∧ ∀ y ∈ fp', y ∈ fp ∨ w.heap.size ≤ y := h
end
set_option maxRecDepth 100000 in
set_option maxHeartbeats 4000000 in
theorem askB_c (b o : Nat) (e : TypeId) (pr po : List Value) (B : Nat) (n : SReplica) (i s : Nat) (fp : List Nat) (w : World) (hR : RepBox b o e pr po B n fp w) (e1 : n.Id = i) (e2 : n.Size = s) (v : Int) (h1 : i < s) (h2 : s ≤ 5) :
    Calls Tryz.prog 80 #[.pointer (some ⟨b, o, none⟩), .int .i64 v] w fun r w' => r = .returned (.tuple #[]) ∧ Moves b o e pr po B (askR n i s v) fp w w' := by
  obtain ⟨A5, c5, A7, c7, A8, c8, A9, c9, f5, f7, f8, f9, rfl, hB, ⟨h5, h7, h8, h9, nd⟩, hn, ho, hs⟩ := hR
  rw [e1, e2] at hB
  refine (ask_c b o e pr po i s v _ _ _ _ _ _ _ _ w hB ho h1 h2).mono ?_
  rintro r w1 ⟨g, h, rfl, K, o8, o9, hgh, T⟩
  have hd : ∀ y ∈ f5 ++ (f7 ++ (f8 ++ f9)), y ∉ [b] := fun y hy hm => hn (by simp at hm; exact hm ▸ hy)
  have i5 := h5.in
  have gg := o8.in g (by simp)
  have gh := o9.in h (by simp)
  have lb := hB.lt
  have sz := T.size
  have nn : (f5 ++ ([] ++ ([g] ++ [h]))).Nodup := by
    have nd5 := (List.nodup_append.1 nd).1
    have : ∀ x, x ∈ f5 → x ≠ g ∧ x ≠ h := fun x hx => by have := (i5 x hx).2; omega
    simp only [List.nil_append, List.nodup_append, List.nodup_cons, List.mem_cons, List.mem_append, List.not_mem_nil, or_false, not_false_eq_true, List.nodup_nil, and_true, true_and]
    grind
  refine ⟨rfl, f5 ++ ([] ++ ([g] ++ [h])), ⟨A5, c5, none, 0, some ⟨g, 0, none⟩, s, some ⟨h, 0, none⟩, s, f5, [], [g], [h], rfl, ?_, ⟨h5.turn T (fun y hy => hd y (by simp [hy])), ownS_nil _ _ _, ?_, ?_, nn⟩, ?_, ho, by omega⟩, T.mono (by simp), ?_⟩
  · simp only [askR]; rw [e1, e2]; simpa [aloneL_len] using K
  · simpa [aloneL_len, askR] using o8.lift (B' := B) (fun y hy => by have := (o8.in y hy).1; omega)
  · simpa [askR] using o9.lift (B' := B) (fun y hy => by have := (o9.in y hy).1; omega)
  · simp only [List.nil_append, List.mem_append, List.mem_cons, List.not_mem_nil, or_false, not_or]
    exact ⟨fun h => hn (by simp [h]), by omega, by omega⟩
  · intro y hy
    simp only [List.nil_append, List.mem_append, List.mem_cons, List.not_mem_nil, or_false] at hy ⊢
    rcases hy with h | h | h
    · exact .inl (.inl h)
    · exact .inr (by omega)
    · exact .inr (by omega)
set_option maxRecDepth 100000 in
set_option maxHeartbeats 4000000 in
theorem l9ForB_c (b o : Nat) (e : TypeId) (pr po : List Value) (B : Nat) (n : SReplica) (i s : Nat) (fp : List Nat) (w : World) (hR : RepBox b o e pr po B n fp w) (e1 : n.Id = i) (e2 : n.Size = s) (v : Int) (h1 : i < s) (h2 : s ≤ 5) :
    Calls Tryz.prog 147 #[.pointer (some ⟨b, o, none⟩), .int .i64 v] w fun r w' => r = .returned (.tuple #[]) ∧ Moves b o e pr po B (askR n i s v) fp w w' := by
  obtain ⟨A5, c5, A7, c7, A8, c8, A9, c9, f5, f7, f8, f9, rfl, hB, ⟨h5, h7, h8, h9, nd⟩, hn, ho, hs⟩ := hR
  rw [e1, e2] at hB
  refine (l9For_c b o e pr po i s v _ _ _ _ _ _ _ _ w hB ho h1 h2).mono ?_
  rintro r w1 ⟨g, h, rfl, K, o8, o9, hgh, T⟩
  have hd : ∀ y ∈ f5 ++ (f7 ++ (f8 ++ f9)), y ∉ [b] := fun y hy hm => hn (by simp at hm; exact hm ▸ hy)
  have i5 := h5.in
  have gg := o8.in g (by simp)
  have gh := o9.in h (by simp)
  have lb := hB.lt
  have sz := T.size
  have nn : (f5 ++ ([] ++ ([g] ++ [h]))).Nodup := by
    have nd5 := (List.nodup_append.1 nd).1
    have : ∀ x, x ∈ f5 → x ≠ g ∧ x ≠ h := fun x hx => by have := (i5 x hx).2; omega
    simp only [List.nil_append, List.nodup_append, List.nodup_cons, List.mem_cons, List.mem_append, List.not_mem_nil, or_false, not_false_eq_true, List.nodup_nil, and_true, true_and]
    grind
  refine ⟨rfl, f5 ++ ([] ++ ([g] ++ [h])), ⟨A5, c5, none, 0, some ⟨g, 0, none⟩, s, some ⟨h, 0, none⟩, s, f5, [], [g], [h], rfl, ?_, ⟨h5.turn T (fun y hy => hd y (by simp [hy])), ownS_nil _ _ _, ?_, ?_, nn⟩, ?_, ho, by omega⟩, T.mono (by simp), ?_⟩
  · simp only [askR]; rw [e1, e2]; simpa [aloneL_len] using K
  · simpa [aloneL_len, askR] using o8.lift (B' := B) (fun y hy => by have := (o8.in y hy).1; omega)
  · simpa [askR] using o9.lift (B' := B) (fun y hy => by have := (o9.in y hy).1; omega)
  · simp only [List.nil_append, List.mem_append, List.mem_cons, List.not_mem_nil, or_false, not_or]
    exact ⟨fun h => hn (by simp [h]), by omega, by omega⟩
  · intro y hy
    simp only [List.nil_append, List.mem_append, List.mem_cons, List.not_mem_nil, or_false] at hy ⊢
    rcases hy with h | h | h
    · exact .inl (.inl h)
    · exact .inr (by omega)
    · exact .inr (by omega)
set_option maxRecDepth 100000 in
set_option maxHeartbeats 4000000 in
theorem settleB_c (b o : Nat) (e : TypeId) (pr po : List Value) (B : Nat) (n : SReplica) (i s : Nat) (fp : List Nat) (w : World) (hR : RepBox b o e pr po B n fp w) (e1 : n.Id = i) (e2 : n.Size = s) (v : Nat) (e3 : n.View = v) (h1 : i < s) (h2 : s ≤ 5) (h3 : v ≤ 200) :
    Calls Tryz.prog 82 #[.pointer (some ⟨b, o, none⟩)] w fun r w' => r = .returned (.tuple #[]) ∧ Moves b o e pr po B (settleR n i s v) fp w w' := by
  obtain ⟨A5, c5, A7, c7, A8, c8, A9, c9, f5, f7, f8, f9, rfl, hB, ⟨h5, h7, h8, h9, nd⟩, hn, ho, hs⟩ := hR
  rw [e1, e2, e3] at hB
  refine (settle_c b o e pr po i s v _ _ _ _ _ _ _ w hB ho h1 h2 (by omega) (by omega)).mono ?_
  rintro r w1 ⟨A, c, f, rfl, K, o7, n7, T⟩
  have hd : ∀ y ∈ f5 ++ (f7 ++ (f8 ++ f9)), y ∉ [b] := fun y hy hm => hn (by simp at hm; exact hm ▸ hy)
  have i5 := h5.in
  have i7 := o7.in
  have lb := hB.lt
  have sz := T.size
  have nn : (f5 ++ (f ++ ([] ++ []))).Nodup := by
    have nd5 := (List.nodup_append.1 nd).1
    simp only [List.append_nil]
    exact nodup_join (m := w.heap.size) nd5 n7 (fun y hy => (i5 y hy).2) (fun y hy => (i7 y hy).1)
  refine ⟨rfl, f5 ++ (f ++ ([] ++ [])), ⟨A5, c5, A, c, none, 0, none, 0, f5, f, [], [], rfl, ?_, ⟨h5.turn T (fun y hy => hd y (by simp [hy])), ?_, ownS_nil _ _ _, ownS_nil _ _ _, nn⟩, ?_, ho, by omega⟩, T.mono (by simp), ?_⟩
  · simp only [settleR]; rw [e1, e2]; simpa using K
  · exact o7.lift (B' := B) (fun y hy => by have := (i7 y hy).1; omega)
  · simp only [List.append_nil, List.mem_append, not_or]
    exact ⟨fun h => hn (by simp [h]), fun h => by have := (i7 b h).1; omega⟩
  · intro y hy
    simp only [List.append_nil, List.mem_append] at hy ⊢
    rcases hy with h | h
    · exact .inl (.inl h)
    · exact .inr (i7 y h).1
set_option maxRecDepth 100000 in
set_option maxHeartbeats 4000000 in
theorem l9BeB_c (b o : Nat) (e : TypeId) (pr po : List Value) (B : Nat) (n : SReplica) (i s : Nat) (fp : List Nat) (w : World) (hR : RepBox b o e pr po B n fp w) (e1 : n.Id = i) (e2 : n.Size = s) (v : Nat) (e3 : n.View = v) (h1 : i < s) (h2 : s ≤ 5) (h3 : v ≤ 200) :
    Calls Tryz.prog 149 #[.pointer (some ⟨b, o, none⟩)] w fun r w' => r = .returned (.tuple #[]) ∧ Moves b o e pr po B (settleR n i s v) fp w w' := by
  obtain ⟨A5, c5, A7, c7, A8, c8, A9, c9, f5, f7, f8, f9, rfl, hB, ⟨h5, h7, h8, h9, nd⟩, hn, ho, hs⟩ := hR
  rw [e1, e2, e3] at hB
  refine (l9Be_c b o e pr po i s v _ _ _ _ _ _ _ w hB ho h1 h2 (by omega) (by omega)).mono ?_
  rintro r w1 ⟨A, c, f, rfl, K, o7, n7, T⟩
  have hd : ∀ y ∈ f5 ++ (f7 ++ (f8 ++ f9)), y ∉ [b] := fun y hy hm => hn (by simp at hm; exact hm ▸ hy)
  have i5 := h5.in
  have i7 := o7.in
  have lb := hB.lt
  have sz := T.size
  have nn : (f5 ++ (f ++ ([] ++ []))).Nodup := by
    have nd5 := (List.nodup_append.1 nd).1
    simp only [List.append_nil]
    exact nodup_join (m := w.heap.size) nd5 n7 (fun y hy => (i5 y hy).2) (fun y hy => (i7 y hy).1)
  refine ⟨rfl, f5 ++ (f ++ ([] ++ [])), ⟨A5, c5, A, c, none, 0, none, 0, f5, f, [], [], rfl, ?_, ⟨h5.turn T (fun y hy => hd y (by simp [hy])), ?_, ownS_nil _ _ _, ownS_nil _ _ _, nn⟩, ?_, ho, by omega⟩, T.mono (by simp), ?_⟩
  · simp only [settleR]; rw [e1, e2]; simpa using K
  · exact o7.lift (B' := B) (fun y hy => by have := (i7 y hy).1; omega)
  · simp only [List.append_nil, List.mem_append, not_or]
    exact ⟨fun h => hn (by simp [h]), fun h => by have := (i7 b h).1; omega⟩
  · intro y hy
    simp only [List.append_nil, List.mem_append] at hy ⊢
    rcases hy with h | h
    · exact .inl (.inl h)
    · exact .inr (i7 y h).1
end Go.Proofs.YtdjfehjddfbbjaaGreat
