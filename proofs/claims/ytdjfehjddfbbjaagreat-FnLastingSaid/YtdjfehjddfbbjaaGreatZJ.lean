/- The program's NewReplica (written by gJ1.py, own work). -/
import Derived.Test.YtdjfehjddfbbjaaGreatZL
set_option linter.unusedVariables false
set_option linter.unusedSimpArgs false
namespace Go.Proofs.YtdjfehjddfbbjaaGreat
open Go Go.RowKit Mk
def newR (i s : Nat) : SReplica := { zReplica with Id := i, Size := s, View := 0, Normal := true, Last := 0, Oks := oksZ i s 0 }
end Go.Proofs.YtdjfehjddfbbjaaGreat

/- The program's NewCluster (written by gJ2.py, own work). -/
set_option linter.unusedVariables false
set_option linter.unusedSimpArgs false
namespace Go.Proofs.YtdjfehjddfbbjaaGreat
open Go Go.RowKit Mk
def newL (s k : Nat) : List SReplica := (List.range k).map (fun j => newR j s)
theorem newL_succ (s k : Nat) : newL s (k + 1) = newL s k ++ [newR k s] := by simp [newL, List.range_succ]
theorem newL_len (s k : Nat) : (newL s k).length = k := by simp [newL]
theorem field_rr (v0 v1 v2 v3 v4 v5 v6 v7 v8 v9 v10 v11 : Value) (W : World) : (Instr.field 33 (.agg #[v0, v1, v2, v3, v4, v5, v6, v7, v8, v9, v10, v11]) 1).run Tryz.prog W = .ok (.agg #[v1, v2, v3, v4, v5, v6, v7, v8, v9, v10]) W := by kernel_rfl
theorem new_own {B B' : Nat} {w5 : World} (x : SReplica) {A6 A8 A9 A10 : Option Addr} {c6 c8 c9 c10 : Nat} {f6 f8 f9 f10 : List Nat} (h : B' ≤ B) (ob : Obj)
    (h5 : OwnS kEntry 49 B w5 f6 (.slice A6 x.Log.length c6) x.Log) (h7 : OwnS kInt 2 B w5 f8 (.slice A8 x.Oks.length c8) x.Oks) (h8 : OwnS kBool 4 B w5 f9 (.slice A9 x.Asks.length c9) x.Asks) (h9 : OwnS kDoer 70 B w5 f10 (.slice A10 x.Doers.length c10) x.Doers) :
    kReplica.Own B' (w5.alloc ob) (f6 ++ (f8 ++ (f9 ++ f10))) [.int .i64 x.Id, .int .i64 x.Size, .int .i64 x.View, .bool x.Normal, .int .i64 x.Last, .slice A6 x.Log.length c6, .int .i64 x.Commit, .slice A8 x.Oks.length c8, .slice A9 x.Asks.length c9, .slice A10 x.Doers.length c10] x := by
  refine kReplica_ownmk x (OwnS.lift (OwnS.keep h5 (fun b hb => Below.heap_alloc _ _ _ (h5.in b hb).2)) (fun b hb => ?_)) (OwnS.lift (OwnS.keep h7 (fun b hb => Below.heap_alloc _ _ _ (h7.in b hb).2)) (fun b hb => ?_)) (OwnS.lift (OwnS.keep h8 (fun b hb => Below.heap_alloc _ _ _ (h8.in b hb).2)) (fun b hb => ?_)) (OwnS.lift (OwnS.keep h9 (fun b hb => Below.heap_alloc _ _ _ (h9.in b hb).2)) (fun b hb => ?_))
  · have := (h5.in b hb).1; omega
  · have := (h7.in b hb).1; omega
  · have := (h8.in b hb).1; omega
  · have := (h9.in b hb).1; omega
theorem new_far {m : Nat} {fp f6 f8 f9 f10 : List Nat} (h : ∀ b ∈ fp, b < m) (i6 : ∀ b ∈ f6, m ≤ b) (i8 : ∀ b ∈ f8, m ≤ b) (i9 : ∀ b ∈ f9, m ≤ b) (i10 : ∀ b ∈ f10, m ≤ b) : ∀ b ∈ fp, b ∉ f6 ++ (f8 ++ (f9 ++ f10)) := by
  intro b hb hm
  have := h b hb
  simp only [List.mem_append] at hm
  rcases hm with q | q | q | q
  · have := i6 b q; omega
  · have := i8 b q; omega
  · have := i9 b q; omega
  · have := i10 b q; omega
theorem new_nd {f6 f8 f9 f10 f11 : List Nat} (h : (f6 ++ (f8 ++ (f9 ++ (f10 ++ f11)))).Nodup) : (f6 ++ (f8 ++ (f9 ++ f10))).Nodup := by
  have : ((f6 ++ (f8 ++ (f9 ++ f10))) ++ f11).Nodup := by simpa [List.append_assoc] using h
  exact (List.nodup_append.1 this).1
def LaidCR (x : SClusterResult) (w : World) (r : Ending) (w' : World) : Prop :=
  ∃ A1 c1 A2 c2 A3 c3 f1 f2 f3, r = .returned (.agg #[.int .i64 x.Code, .slice A1 x.Cluster.Nodes.length c1, .slice A2 x.Cluster.Mails.length c2, .slice A3 x.Cluster.Sealed.length c3]) ∧ HasClusterResult w.heap.size w' x A1 c1 A2 c2 A3 c3 f1 f2 f3 ∧ Below w.heap.size w w'
end Go.Proofs.YtdjfehjddfbbjaaGreat

/- The program's ownCluster: a cluster copied (written by gJ3.py, own work). -/
set_option linter.unusedVariables false
set_option linter.unusedSimpArgs false
namespace Go.Proofs.YtdjfehjddfbbjaaGreat
open Go Go.RowKit Mk
def SmallClu (x : SCluster) : Prop := x.Nodes.length ≤ 1000 ∧ (∀ n ∈ x.Nodes, SmallRep n) ∧ x.Mails.length ≤ 1000 ∧ (∀ m ∈ x.Mails, m.Log.length ≤ 1048576) ∧ x.Sealed.length ≤ 1048576
def CopiedClu (x : SCluster) (w : World) (r : Ending) (w' : World) : Prop :=
  ∃ A0 c0 A1 c1 A2 c2 f0 f1 f2, r = .returned (.agg #[.slice A0 x.Nodes.length c0, .slice A1 x.Mails.length c1, .slice A2 x.Sealed.length c2]) ∧ HasCluster w.heap.size w' x A0 c0 A1 c1 A2 c2 f0 f1 f2 ∧ Below w.heap.size w w'
theorem OwnS.bel' {α : Type} {d : Kd α} {e : TypeId} {B : Nat} {w w' : World} {fp : List Nat} {v : Value} {xs : List α} (h : OwnS d e B w fp v xs) (hb : Below w.heap.size w w') : OwnS d e B w' fp v xs := OwnS.keep h (fun b hm => hb.block b (h.in b hm).2)
end Go.Proofs.YtdjfehjddfbbjaaGreat
