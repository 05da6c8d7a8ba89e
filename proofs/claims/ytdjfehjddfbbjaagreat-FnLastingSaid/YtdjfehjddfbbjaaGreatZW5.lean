/- A node drawn: its state while it is drawn (written by gW5.py, own work). -/
import Derived.Test.YtdjfehjddfbbjaaGreatZW4
set_option linter.unusedVariables false
set_option linter.unusedSimpArgs false
namespace Go.Proofs.YtdjfehjddfbbjaaGreat
open Go Go.RowKit Mk
/-- Bounds of a node that is drawn. -/
def Loose (n : SReplica) : Prop := n.Log.length ≤ 8 ∧ n.Oks.length ≤ 6 ∧ n.Asks.length ≤ 5 ∧ n.Doers.length ≤ 5
/-- A node drawn. -/
def RepTo (w0 : World) (g : Nat) (A : Option Addr) (len c M : Nat) (w : World) (r : Ending) (w' : World) : Prop :=
  ∃ (n : SReplica) (A5 : Option Addr) (c5 : Nat) (A7 : Option Addr) (c7 : Nat) (A8 : Option Addr) (c8 : Nat) (A9 : Option Addr) (c9 : Nat) (f5 f7 f8 f9 : List Nat), r = .returned (.agg #[.int .i64 n.Id, .int .i64 n.Size, .int .i64 n.View, .bool n.Normal, .int .i64 n.Last, .slice A5 n.Log.length c5, .int .i64 n.Commit, .slice A7 n.Oks.length c7, .slice A8 n.Asks.length c8, .slice A9 n.Doers.length c9]) ∧ HasReplica w.heap.size w' n A5 c5 A7 c7 A8 c8 A9 c9 f5 f7 f8 f9 ∧ Loose n ∧ SrcTo w0 g A len c M w' ∧ Turn [g] w w'
/-- The state while a node is drawn: the answer's block, the node's box, the source. -/
def DrawSt (w0 : World) (g : Nat) (A : Option Addr) (len c M : Nat) (w : World) (b : Nat) (n : SReplica) (fp : List Nat) (W : World) : Prop :=
  Blk W w.heap.size 29 [.int .i64 0, .int .i64 0, .int .i64 0, .bool false, .int .i64 0, .slice none 0 0, .int .i64 0, .slice none 0 0, .slice none 0 0, .slice none 0 0] ∧ RepBox b 0 29 [] [] (w.heap.size + 1) n fp W ∧ SrcTo w0 g A len c M W ∧ Turn [g] w W ∧ w.heap.size + 1 ≤ b ∧ g < w.heap.size ∧ w0.heap.size ≤ g
section
variable {w0 : World} {g : Nat} {A : Option Addr} {len c M : Nat} {w : World} {b : Nat} {n : SReplica} {fp : List Nat} {W : World}
theorem DrawSt.ng (h : DrawSt w0 g A len c M w b n fp W) : b ∉ [g] ∧ ∀ y ∈ fp, y ∉ [g] := by
  obtain ⟨h1, h2, h3, h4, h5, h6, h7⟩ := h
  have hi := h2.in
  refine ⟨by simp; omega, fun y hy => ?_⟩
  have := (hi y hy).1
  simp; omega
theorem DrawSt.turnG {W1 : World} {M' : Nat} (h : DrawSt w0 g A len c M w b n fp W) (T : Turn [g] W W1) (hs : SrcTo w0 g A len c M' W1) : DrawSt w0 g A len c M' w b n fp W1 := by
  have hg := h.ng
  obtain ⟨h1, h2, h3, h4, h5, h6, h7⟩ := h
  exact ⟨h1.turn T (by simp; omega), h2.turn T hg.1 hg.2, hs, h4.trans T, h5, h6, h7⟩
theorem DrawSt.move {W1 : World} {n' : SReplica} {fp' : List Nat} (h : DrawSt w0 g A len c M w b n fp W) (T : Turn (b :: fp) W W1) (hR : RepBox b 0 29 [] [] (w.heap.size + 1) n' fp' W1) : DrawSt w0 g A len c M w b n' fp' W1 := by
  obtain ⟨h1, h2, h3, h4, h5, h6, h7⟩ := h
  have hi := h2.in
  have hx : ∀ y ∈ b :: fp, w.heap.size + 1 ≤ y := fun y hy => by
    rcases List.mem_cons.1 hy with rfl | hy
    · exact h5
    · exact (hi y hy).1
  exact ⟨h1.turn T (fun hm => by have := hx _ hm; omega), hR, h3.turn T (fun y hy => by have := hx y hy; omega) (fun hm => by have := hx g hm; omega), h4.fresh T (fun y hy => .inr (by have := hx y hy; omega)), h5, h6, h7⟩
theorem DrawSt.put {n' : SReplica} {fp' : List Nat} {j : Nat} {x : Value} (h : DrawSt w0 g A len c M w b n fp W) (hR : RepBox b 0 29 [] [] (w.heap.size + 1) n' fp' (W.setCell ⟨b, j, none⟩ x)) : DrawSt w0 g A len c M w b n' fp' (W.setCell ⟨b, j, none⟩ x) :=
  h.move ((Turn.refl _ W).set (by simp) x) hR
theorem DrawSt.mono {M' : Nat} (h : DrawSt w0 g A len c M w b n fp W) (hm : M ≤ M') : DrawSt w0 g A len c M' w b n fp W := by
  obtain ⟨h1, h2, h3, h4, h5, h6, h7⟩ := h
  exact ⟨h1, h2, h3.mono hm, h4, h5, h6, h7⟩
theorem DrawSt.src (h : DrawSt w0 g A len c M w b n fp W) : SrcTo w0 g A len c M W := h.2.2.1
theorem DrawSt.rep (h : DrawSt w0 g A len c M w b n fp W) : RepBox b 0 29 [] [] (w.heap.size + 1) n fp W := h.2.1
theorem DrawSt.quiet {W1 : World} (h : DrawSt w0 g A len c M w b n fp W) (hb : Below W.heap.size W W1) : DrawSt w0 g A len c M w b n fp W1 := h.turnG (Turn.of_below hb) (h.src.below hb)
theorem DrawSt.fin (h : DrawSt w0 g A len c M w b n fp W) : ∃ (A5 : Option Addr) (c5 : Nat) (A7 : Option Addr) (c7 : Nat) (A8 : Option Addr) (c8 : Nat) (A9 : Option Addr) (c9 : Nat) (f5 f7 f8 f9 : List Nat), Blk W b 29 [.int .i64 n.Id, .int .i64 n.Size, .int .i64 n.View, .bool n.Normal, .int .i64 n.Last, .slice A5 n.Log.length c5, .int .i64 n.Commit, .slice A7 n.Oks.length c7, .slice A8 n.Asks.length c8, .slice A9 n.Doers.length c9] ∧ ∀ W', Turn [w.heap.size] W W' → HasReplica w.heap.size W' n A5 c5 A7 c7 A8 c8 A9 c9 f5 f7 f8 f9 ∧ SrcTo w0 g A len c M W' ∧ Turn [g] w W' := by
  obtain ⟨h1, hR, h3, h4, h5', h6, h7'⟩ := h
  have hi := hR.in
  obtain ⟨A5, c5, A7, c7, A8, c8, A9, c9, f5, f7, f8, f9, rfl, hB, ⟨h5, h7, h8, h9, nd⟩, hn, ho, hs⟩ := hR
  simp only [List.nil_append, List.append_nil] at hB
  have hd : ∀ y ∈ f5 ++ (f7 ++ (f8 ++ f9)), y ∉ [w.heap.size] := fun y hy hm => by have := (hi y hy).1; simp at hm; omega
  have hl : ∀ y ∈ f5 ++ (f7 ++ (f8 ++ f9)), w.heap.size ≤ y := fun y hy => by have := (hi y hy).1; omega
  refine ⟨A5, c5, A7, c7, A8, c8, A9, c9, f5, f7, f8, f9, hB, fun W' T => ⟨⟨(h5.turn T (fun y hy => hd y (by simp [hy]))).lift (fun y hy => hl y (by simp [hy])), (h7.turn T (fun y hy => hd y (by simp [hy]))).lift (fun y hy => hl y (by simp [hy])), (h8.turn T (fun y hy => hd y (by simp [hy]))).lift (fun y hy => hl y (by simp [hy])), (h9.turn T (fun y hy => hd y (by simp [hy]))).lift (fun y hy => hl y (by simp [hy])), nd⟩, h3.turn T (by simp; omega) (by simp; omega), h4.fresh T (by simp)⟩⟩
theorem step_appFlat {P : Program} {ops : Array Oper} {o : Oper} {a : Act} {Q : Exit → Act → World → Prop} {α : Type} {d : Kd α} {w : World} {B : Nat} {fp : List Nat} {v : Value} {ys zs : List α} {K : Act → World → Prop} {E : Prop} (hgd : o.guard = none) (s y : Operand) (t e : TypeId)
    (ho : o.op = .call { callee := .builtin .append, args := #[s, y], argTypes := #[t, t] }) (ht : P.underlying t = some (.slice e)) (hr : rowOf P e d.sz = true) (hf : Flat d) {A : Option Addr} {c : Nat}
    (hv : a.eval s = v) (hx : a.eval y = .slice A zs.length c) (h : OwnS d e B w fp v ys) (nd : fp.Nodup) (hz : RdS d w A c zs)
    (hn : ys.length + zs.length ≤ 1073741824) (hB : B ≤ w.heap.size)
    (k : ∀ v' w' fp', Grew d e B w fp [] v' w' fp' (ys ++ zs) → K (a.put o.dst v') w') : if Region.wanted o (yielded ops a.tmps) = true then Oper.wp P o a w K Q else E := by
  obtain ⟨ce, hs, hl⟩ := hz.src (P := P) ht
  exact step_app hgd s y t e ho ht hr hv hx h nd hs (hf.row hl) List.nodup_nil (fun b _ hb => by cases hb) hn hB k
theorem rdS_oneI (w : World) (x : Int) : RdS kInt (w.alloc (.cells #[.int .i64 x] 2)) (some ⟨w.heap.size, 0, none⟩) 1 [x] :=
  ⟨by simp, by unfold maxLen; omega, [.int .i64 x], ⟨[.int .i64 x], [], rfl, rfl, rfl⟩, fun _ => ⟨_, rfl, lies_alloc w #[.int .i64 x] 2⟩⟩
theorem rdS_oneB (w : World) (x : Bool) : RdS kBool (w.alloc (.cells #[.bool x] 4)) (some ⟨w.heap.size, 0, none⟩) 1 [x] :=
  ⟨by simp, by unfold maxLen; omega, [.bool x], ⟨[.bool x], [], rfl, rfl, rfl⟩, fun _ => ⟨_, rfl, lies_alloc w #[.bool x] 4⟩⟩
end
end Go.Proofs.YtdjfehjddfbbjaaGreat
