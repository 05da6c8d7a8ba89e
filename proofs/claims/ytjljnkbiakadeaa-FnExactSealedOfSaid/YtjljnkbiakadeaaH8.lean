/- What comes of something that a node does on its own: the program's done (written by gH8.py, own work). -/
import Derived.Test.YtjljnkbiakadeaaH7
set_option linter.unusedVariables false
set_option linter.unusedSimpArgs false
namespace Go.Proofs.Ytjljnkbiakadeaa
open Go Go.RowKit Mk
/-- A call that lays a node's result. -/
def LaidRR (x : SReplicaResult) (w : World) (r : Ending) (w' : World) : Prop :=
  ∃ A6 c6 A8 c8 A9 c9 A10 c10 A11 c11 f6 f8 f9 f10 f11, r = .returned (.agg #[.int .i64 x.Code, .int .i64 x.Replica.Id, .int .i64 x.Replica.Size, .int .i64 x.Replica.View, .bool x.Replica.Normal, .int .i64 x.Replica.Last, .slice A6 x.Replica.Log.length c6, .int .i64 x.Replica.Commit, .slice A8 x.Replica.Oks.length c8, .slice A9 x.Replica.Asks.length c9, .slice A10 x.Replica.Doers.length c10, .slice A11 x.Send.length c11]) ∧ HasReplicaResult w.heap.size w' x A6 c6 A8 c8 A9 c9 A10 c10 A11 c11 f6 f8 f9 f10 f11 ∧ Below w.heap.size w w'
theorem LaidRR.bad {w w' : World} (k : Int) (hb : Below w.heap.size w w') : LaidRR ⟨k, zReplica, []⟩ w (.returned (.agg #[.int .i64 k, .int .i64 0, .int .i64 0, .int .i64 0, .bool false, .int .i64 0, .slice none 0 0, .int .i64 0, .slice none 0 0, .slice none 0 0, .slice none 0 0, .slice none 0 0])) w' :=
  ⟨none, 0, none, 0, none, 0, none, 0, none, 0, [], [], [], [], [], rfl, ⟨ownS_nil _ _ _, ownS_nil _ _ _, ownS_nil _ _ _, ownS_nil _ _ _, ownS_nil _ _ _, by simp⟩, hb⟩
theorem LaidRR.base {x : SReplicaResult} {w w1 w' : World} {r : Ending} (h : LaidRR x w1 r w') (hb : Below w.heap.size w w1) : LaidRR x w r w' := by
  obtain ⟨A6, c6, A8, c8, A9, c9, A10, c10, A11, c11, f6, f8, f9, f10, f11, rfl, ⟨h1, h2, h3, h4, h5, nd⟩, b⟩ := h
  have hs := hb.size
  exact ⟨A6, c6, A8, c8, A9, c9, A10, c10, A11, c11, f6, f8, f9, f10, f11, rfl, ⟨h1.lift (fun b hb => by have := (h1.in b hb).1; omega), h2.lift (fun b hb => by have := (h2.in b hb).1; omega), h3.lift (fun b hb => by have := (h3.in b hb).1; omega), h4.lift (fun b hb => by have := (h4.in b hb).1; omega), h5.lift (fun b hb => by have := (h5.in b hb).1; omega), nd⟩, below_trans hb b⟩
/-- What is asked of a method that is handed to done. -/
def Does (g : Nat) (cb : Array Value) (n n' : SReplica) (ms : List SMail) (code : Int) (w0 : World) : Prop :=
  ∀ (b : Nat) (A5 : Option Addr) (c5 : Nat) (A7 : Option Addr) (c7 : Nat) (A8 : Option Addr) (c8 : Nat) (A9 : Option Addr) (c9 : Nat) (f5 f7 f8 f9 : List Nat) (B : Nat) (W : World), Below w0.heap.size w0 W → Blk W b 78 [.int .i64 n.Id, .int .i64 n.Size, .int .i64 n.View, .bool n.Normal, .int .i64 n.Last, .slice A5 n.Log.length c5, .int .i64 n.Commit, .slice A7 n.Oks.length c7, .slice A8 n.Asks.length c8, .slice A9 n.Doers.length c9] → HasReplica B W n A5 c5 A7 c7 A8 c8 A9 c9 f5 f7 f8 f9 → b ∉ f5 ++ (f7 ++ (f8 ++ f9)) → B ≤ W.heap.size →
    Calls Try.prog g (#[.pointer (some ⟨b, 0, none⟩)] ++ cb) W fun r W' => DidBox b n' ms code (f5 ++ (f7 ++ (f8 ++ f9))) B W r W'
theorem Does.mono {g : Nat} {cb : Array Value} {n n' : SReplica} {ms : List SMail} {code : Int} {w0 w1 : World} (h : Does g cb n n' ms code w0) (hb : Below w0.heap.size w0 w1) : Does g cb n n' ms code w1 :=
  fun b A5 c5 A7 c7 A8 c8 A9 c9 f5 f7 f8 f9 B W hW => h b A5 c5 A7 c7 A8 c8 A9 c9 f5 f7 f8 f9 B W (below_trans hb hW)
end Go.Proofs.Ytjljnkbiakadeaa
