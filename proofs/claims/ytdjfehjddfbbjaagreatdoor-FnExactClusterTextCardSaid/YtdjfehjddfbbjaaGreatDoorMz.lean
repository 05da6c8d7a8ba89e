/- Rows that 'make' lays, known whole (own work; nothing of the program is named here). -/
import Derived.Test.YtdjfehjddfbbjaaGreatDoorAp
import Derived.Deep.RegionLaw
set_option linter.unusedVariables false
set_option linter.unusedSimpArgs false
namespace Mk
open Go Go.RowKit
theorem made_rows (z : Array Value) : ∀ n : Nat, (madeCells z (n * z.size)).toList = (List.replicate n z.toList).flatten
  | 0 => by simp [madeCells]
  | n + 1 => by
    have ih := made_rows z n
    simp only [madeCells, Array.toList_map, Array.toList_range] at ih ⊢
    rw [Nat.succ_mul, List.range_add, List.map_append, ih, List.replicate_succ', List.flatten_append, List.map_map]
    congr 1
    simp only [List.flatten_cons, List.flatten_nil, List.append_nil]
    apply List.ext_getElem?
    intro i
    by_cases hi : i < z.size
    · rw [List.getElem?_map, List.getElem?_range hi]
      simp only [Option.map_some, Function.comp]
      rw [Nat.add_comm, Nat.add_mul_mod_self_right, Nat.mod_eq_of_lt hi]
      simp [hi]
    · rw [List.getElem?_eq_none (by simp; omega), List.getElem?_eq_none (by simp; omega)]
theorem blk_made (w : World) (z : Array Value) (n : Nat) (e : TypeId) : Blk (w.alloc (.cells (madeCells z (n * z.size)) e)) w.heap.size e (List.replicate n z.toList).flatten := by
  have h := blk_alloc w (madeCells z (n * z.size)).toList e
  rw [made_rows] at h
  have e2 : (List.replicate n z.toList).flatten.toArray = madeCells z (n * z.size) := by rw [← made_rows]
  rw [e2] at h
  exact h
section
variable {α : Type} {d : Kd α} {w : World} {e : TypeId} {B : Nat}
theorem ownL_rep {cs : List Value} {x : α} (h : d.Own B w [] cs x) : ∀ n : Nat, OwnL d B w [] (List.replicate n cs).flatten (List.replicate n x)
  | 0 => ⟨rfl, rfl⟩
  | n + 1 => by
    rw [List.replicate_succ, List.replicate_succ, List.flatten_cons]
    exact ⟨[], [], cs, _, rfl, rfl, h, ownL_rep h n⟩
/-- A block that is filled is a row that is owned. -/
theorem ownS_blk {g : Nat} {cells : List Value} {xs : List α} (h : Blk w g e cells) (hl : OwnL d B w [] cells xs) (hB : B ≤ g) (hm : xs.length ≤ maxLen) : OwnS d e B w [g] (.slice (some ⟨g, 0, none⟩) xs.length xs.length) xs :=
  .inl ⟨[], cells, rfl, ⟨RdL.len hl.rd, .inr ⟨g, xs.length, cells.toArray, rfl, hB, h, Nat.le_refl _, hm, by simp; exact RdL.len hl.rd, by simp; exact List.take_of_length_le (by rw [RdL.len hl.rd]; exact Nat.le_refl _)⟩⟩, hl⟩
end
section
variable {P : Program} {ops : Array Oper} {rest : List Oper} {o : Oper} {a : Act} {Q : Exit → Act → World → Prop}
theorem wpList_mk {W : World} (t e : TypeId) (z : Value) (bytes : Nat) (x y : Operand) (hgd : o.guard = none) (ho : o.op = .makeSlice t x y) (n : Nat) (hx : a.eval x = .int .i64 (n : Int)) (hy : a.eval y = .int .i64 (n : Int)) (ht : P.underlying t = some (.slice e))
    (hinfo : (P.info? e).map (fun i => (i.zero, i.size, i.bytes)) = some (some z, z.cells.size, bytes)) (hby : bytes ≤ 1024) (hn : n ≤ 1073741824)
    (h' : ∀ W', Blk W' W.heap.size e (List.replicate n z.cells.toList).flatten → Below W.heap.size W W' → W.heap.size < W'.heap.size → wpList P ops Q rest (a.put o.dst (.slice (some ⟨W.heap.size, 0, none⟩) n n)) W') : wpList P ops Q (o :: rest) a W := by
  have h := h' (W.alloc (.cells (madeCells z.cells (n * z.cells.size)) e)) (blk_made W z.cells n e) (below_alloc (Below.refl _ _) _) (by rw [Deep.nblk_alloc]; omega)
  refine wpList_plain hgd fun K hK => ?_
  unfold Oper.wp
  cases hi : P.info? e with
  | none => rw [hi] at hinfo; cases hinfo
  | some i =>
    rw [hi] at hinfo
    simp only [Option.map_some, Option.some.injEq, Prod.mk.injEq] at hinfo
    obtain ⟨hz, hs, hb⟩ := hinfo
    have hm : i.bytes * n ≤ 1024 * 1073741824 := Nat.mul_le_mul (by omega) hn
    have hr := run_make (P := P) W t e i z ht hi hz .i64 .i64 (n : Int) (n : Int) (by omega) (by omega)
      (by
        have : ((i.bytes * n : Nat) : Int) ≤ 281474976710656 := by omega
        rwa [Int.natCast_mul] at this) (by omega)
    simp only [Int.toNat_natCast] at hr
    have he : (execOp a.eval o).run P W = .ok (.value (.slice (some ⟨W.heap.size, 0, none⟩) n n)) (W.alloc (.cells (madeCells z.cells (n * i.size)) e)) := by
      simp [execOp, ho, hx, hy, hr]
    rw [he, hs]
    exact hK _ _ h
theorem step_app {α : Type} {d : Kd α} {w : World} {B : Nat} {fp fs : List Nat} {v x : Value} {ys zs : List α} {ce : List Value} {K : Act → World → Prop} {E : Prop} (hgd : o.guard = none) (s y : Operand) (t e : TypeId)
    (ho : o.op = .call { callee := .builtin .append, args := #[s, y], argTypes := #[t, t] }) (ht : P.underlying t = some (.slice e)) (hr : rowOf P e d.sz = true)
    (hv : a.eval s = v) (hx : a.eval y = x) (h : OwnS d e B w fp v ys) (nd : fp.Nodup) (hs : Src P d.sz t x zs.length ce w) (hl : OwnL d B w fs ce zs) (nfs : fs.Nodup) (hd : ∀ b ∈ fp, b ∉ fs)
    (hn : ys.length + zs.length ≤ 1073741824) (hB : B ≤ w.heap.size)
    (k : ∀ v' w' fp', Grew d e B w fp fs v' w' fp' (ys ++ zs) → K (a.put o.dst v') w') : if Region.wanted o (yielded ops a.tmps) = true then Oper.wp P o a w K Q else E := by
  have hw : Region.wanted o (yielded ops a.tmps) = true := by simp [Region.wanted, hgd]
  rw [if_pos hw]
  obtain ⟨v', w', fp', hrun, hg⟩ := append_owns (ty := o.type) ht hr h nd hs hl nfs hd hn hB
  unfold Oper.wp execOp
  simp only [ho, resolve, invoke, builtin, Sem.run_bind, Sem.run_pure, Result.andThen_ok, List.map_toArray, List.map_cons, List.map_nil, hv, hx, hrun]
  exact k v' w' fp' hg
/-- The world of a goal, by what is known of it. -/
theorem at_world {c : Code} {W : World} (F : World → Prop) (h : F W) (k : ∀ W', F W' → Code.wp P c Q a W') : Code.wp P c Q a W := k W h
theorem at_call {f : FuncId} {args : Array Value} {W : World} {R : Ending → World → Prop} (F : World → Prop) (h : F W) (k : ∀ W', F W' → Calls P f args W' R) : Calls P f args W R := k W h
end
end Mk
