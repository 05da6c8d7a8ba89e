/- Owned values, their parts (written by gM.py, own work). -/
import Derived.Test.YtfblopmploohkaaGreatDoorZTy
import Derived.Test.YtfblopmploohkaaGreatDoorZW
set_option linter.unusedVariables false
set_option linter.unusedSimpArgs false
namespace Go.Proofs.YtfblopmploohkaaGreatDoor
open Go Go.RowKit Mk

theorem ownS_rds {α : Type} {d : Kd α} {e : TypeId} {B : Nat} {w : World} {fp : List Nat} {A : Option Addr} {n c : Nat} {xs : List α} (h : OwnS d e B w fp (.slice A n c) xs) : RdS d w A c xs ∧ n = xs.length := by
  obtain ⟨A', c', h1, h2⟩ := h.form
  injection h1 with a b c
  subst a; subst c; exact ⟨h2, b⟩
section
variable {gg : Nat} {f1 fe f2 : List Nat} (nd : (gg :: (f1 ++ (fe ++ f2))).Nodup)
include nd
theorem nd_g : ¬ (gg ∈ f1 ∨ gg ∈ f2) := by simp only [List.nodup_cons, List.mem_append] at nd; grind
theorem nd_e : fe.Nodup := by simp only [List.nodup_cons, List.nodup_append] at nd; grind
theorem nd_ge : gg ∉ fe := by simp only [List.nodup_cons, List.mem_append] at nd; grind
theorem nd_fresh {fl : List Nat} {m : Nat} (nl : fl.Nodup) (h1 : ∀ b ∈ gg :: (f1 ++ (fe ++ f2)), b < m) (h2 : ∀ b ∈ fl, m ≤ b) : (gg :: (f1 ++ (fl ++ f2))).Nodup := by
  have hm : ∀ b, b ∈ fl → b ∉ gg :: (f1 ++ (fe ++ f2)) := fun b hb hx => by have := h1 b hx; have := h2 b hb; omega
  simp only [List.nodup_cons, List.nodup_append, List.mem_append, List.mem_cons, not_or] at nd hm ⊢
  grind
theorem nd_fe (b : Nat) (hb : b ∈ f1 ∨ b ∈ f2) : b ∉ fe := by simp only [List.nodup_cons, List.nodup_append, List.mem_append] at nd; grind
end
/-- Four lists of blocks, no block in two of them. -/
structure Dis4 (a b c d : List Nat) : Prop where
  n0 : a.Nodup
  n1 : b.Nodup
  n2 : c.Nodup
  n3 : d.Nodup
  d01 : ∀ x, x ∈ a → x ∈ b → False
  d02 : ∀ x, x ∈ a → x ∈ c → False
  d03 : ∀ x, x ∈ a → x ∈ d → False
  d12 : ∀ x, x ∈ b → x ∈ c → False
  d13 : ∀ x, x ∈ b → x ∈ d → False
  d23 : ∀ x, x ∈ c → x ∈ d → False
theorem dis4 {a b c d : List Nat} (h : (a ++ (b ++ (c ++ d))).Nodup) : Dis4 a b c d := by
  obtain ⟨h1, h2, h3⟩ := List.nodup_append.1 h
  obtain ⟨h4, h5, h6⟩ := List.nodup_append.1 h2
  obtain ⟨h7, h8, h9⟩ := List.nodup_append.1 h5
  exact ⟨h1, h4, h7, h8, fun x p q => h3 x p x (List.mem_append_left _ q) rfl, fun x p q => h3 x p x (List.mem_append_right _ (List.mem_append_left _ q)) rfl, fun x p q => h3 x p x (List.mem_append_right _ (List.mem_append_right _ q)) rfl,
    fun x p q => h6 x p x (List.mem_append_left _ q) rfl, fun x p q => h6 x p x (List.mem_append_right _ q) rfl, fun x p q => h9 x p x q rfl⟩

theorem kOp_own {B : Nat} {w : World} {fp : List Nat} {cs : List Value} {x : SOp} (h : kOp.Own B w fp cs x) : cs = [.int .i64 x.Kind, .int .i64 x.Vol, .int .i64 x.At, .int .i64 x.Value] ∧ fp = [] := by
  obtain ⟨_, _, _, _, rfl, rfl, ⟨rfl, rfl⟩, ⟨_, _, _, _, rfl, rfl, ⟨rfl, rfl⟩, ⟨_, _, _, _, rfl, rfl, ⟨rfl, rfl⟩, ⟨rfl, rfl⟩⟩⟩⟩ := h
  exact ⟨rfl, by simp⟩
theorem kOp_ownmk {B : Nat} {w : World} (x : SOp) : kOp.Own B w [] [.int .i64 x.Kind, .int .i64 x.Vol, .int .i64 x.At, .int .i64 x.Value] x := by
  rw [show ([] : List Nat) = ([] ++ ([] ++ ([] ++ []))) by simp]
  exact ⟨[], ([] ++ ([] ++ [])), _, _, rfl, rfl, ⟨rfl, rfl⟩, ⟨[], ([] ++ []), _, _, rfl, rfl, ⟨rfl, rfl⟩, ⟨[], [], _, _, rfl, rfl, ⟨rfl, rfl⟩, ⟨rfl, rfl⟩⟩⟩⟩
theorem kEntry_own {B : Nat} {w : World} {fp : List Nat} {cs : List Value} {x : SEntry} (h : kEntry.Own B w fp cs x) : cs = [.int .i64 x.Client, .int .i64 x.Seq, .int .i64 x.Op.Kind, .int .i64 x.Op.Vol, .int .i64 x.Op.At, .int .i64 x.Op.Value] ∧ fp = [] := by
  obtain ⟨_, _, _, _, rfl, rfl, ⟨rfl, rfl⟩, ⟨_, _, _, _, rfl, rfl, ⟨rfl, rfl⟩, g3⟩⟩ := h
  obtain ⟨rfl, rfl⟩ := kOp_own g3
  exact ⟨rfl, by simp⟩
theorem kEntry_ownmk {B : Nat} {w : World} (x : SEntry) : kEntry.Own B w [] [.int .i64 x.Client, .int .i64 x.Seq, .int .i64 x.Op.Kind, .int .i64 x.Op.Vol, .int .i64 x.Op.At, .int .i64 x.Op.Value] x := by
  rw [show ([] : List Nat) = ([] ++ ([] ++ ([] ++ ([] ++ ([] ++ []))))) by simp]
  exact ⟨[], ([] ++ ([] ++ ([] ++ ([] ++ [])))), _, _, rfl, rfl, ⟨rfl, rfl⟩, ⟨[], ([] ++ ([] ++ ([] ++ []))), _, _, rfl, rfl, ⟨rfl, rfl⟩, ⟨[], ([] ++ ([] ++ [])), _, _, rfl, rfl, ⟨rfl, rfl⟩, ⟨[], ([] ++ []), _, _, rfl, rfl, ⟨rfl, rfl⟩, ⟨[], [], _, _, rfl, rfl, ⟨rfl, rfl⟩, ⟨rfl, rfl⟩⟩⟩⟩⟩⟩
theorem kDoer_own {B : Nat} {w : World} {fp : List Nat} {cs : List Value} {x : SDoer} (h : kDoer.Own B w fp cs x) : ∃ (A2 : Option Addr) (c2 : Nat) (f2 : List Nat), cs = [.bool x.Known, .int .i64 x.Last, .slice A2 x.Log.length c2, .int .i64 x.Commit] ∧ fp = f2 ∧ OwnS kEntry 46 B w f2 (.slice A2 x.Log.length c2) x.Log := by
  obtain ⟨_, _, _, _, rfl, rfl, ⟨rfl, rfl⟩, ⟨_, _, _, _, rfl, rfl, ⟨rfl, rfl⟩, ⟨_, _, _, _, rfl, rfl, ⟨_, rfl, h3⟩, ⟨rfl, rfl⟩⟩⟩⟩ := h
  obtain ⟨_, _, rfl, _⟩ := h3.form
  exact ⟨_, _, _, rfl, by simp, h3⟩
theorem kDoer_ownmk {B : Nat} {w : World} (x : SDoer) {A2 : Option Addr} {c2 : Nat} {f2 : List Nat} (h2 : OwnS kEntry 46 B w f2 (.slice A2 x.Log.length c2) x.Log) : kDoer.Own B w f2 [.bool x.Known, .int .i64 x.Last, .slice A2 x.Log.length c2, .int .i64 x.Commit] x := by
  rw [show (f2 : List Nat) = ([] ++ ([] ++ (f2 ++ []))) by simp]
  exact ⟨[], ([] ++ (f2 ++ [])), _, _, rfl, rfl, ⟨rfl, rfl⟩, ⟨[], (f2 ++ []), _, _, rfl, rfl, ⟨rfl, rfl⟩, ⟨f2, [], _, _, rfl, rfl, ⟨_, rfl, h2⟩, ⟨rfl, rfl⟩⟩⟩⟩
/-- A value's parts, all owned, each in blocks of its own. -/
def HasDoer (B : Nat) (w : World) (x : SDoer) (A2 : Option Addr) (c2 : Nat) (f2 : List Nat) : Prop := OwnS kEntry 46 B w f2 (.slice A2 x.Log.length c2) x.Log ∧ (f2 : List Nat).Nodup
theorem kReplica_own {B : Nat} {w : World} {fp : List Nat} {cs : List Value} {x : SReplica} (h : kReplica.Own B w fp cs x) : ∃ (A5 : Option Addr) (c5 : Nat) (A7 : Option Addr) (c7 : Nat) (A8 : Option Addr) (c8 : Nat) (A9 : Option Addr) (c9 : Nat) (f5 f7 f8 f9 : List Nat), cs = [.int .i64 x.Id, .int .i64 x.Size, .int .i64 x.View, .bool x.Normal, .int .i64 x.Last, .slice A5 x.Log.length c5, .int .i64 x.Commit, .slice A7 x.Oks.length c7, .slice A8 x.Asks.length c8, .slice A9 x.Doers.length c9] ∧ fp = (f5 ++ (f7 ++ (f8 ++ f9))) ∧ OwnS kEntry 46 B w f5 (.slice A5 x.Log.length c5) x.Log ∧ OwnS kInt 2 B w f7 (.slice A7 x.Oks.length c7) x.Oks ∧ OwnS kBool 4 B w f8 (.slice A8 x.Asks.length c8) x.Asks ∧ OwnS kDoer 105 B w f9 (.slice A9 x.Doers.length c9) x.Doers := by
  obtain ⟨_, _, _, _, rfl, rfl, ⟨rfl, rfl⟩, ⟨_, _, _, _, rfl, rfl, ⟨rfl, rfl⟩, ⟨_, _, _, _, rfl, rfl, ⟨rfl, rfl⟩, ⟨_, _, _, _, rfl, rfl, ⟨rfl, rfl⟩, ⟨_, _, _, _, rfl, rfl, ⟨rfl, rfl⟩, ⟨_, _, _, _, rfl, rfl, ⟨_, rfl, h6⟩, ⟨_, _, _, _, rfl, rfl, ⟨rfl, rfl⟩, ⟨_, _, _, _, rfl, rfl, ⟨_, rfl, h8⟩, ⟨_, _, _, _, rfl, rfl, ⟨_, rfl, h9⟩, ⟨_, rfl, h10⟩⟩⟩⟩⟩⟩⟩⟩⟩⟩ := h
  obtain ⟨_, _, rfl, _⟩ := h6.form
  obtain ⟨_, _, rfl, _⟩ := h8.form
  obtain ⟨_, _, rfl, _⟩ := h9.form
  obtain ⟨_, _, rfl, _⟩ := h10.form
  exact ⟨_, _, _, _, _, _, _, _, _, _, _, _, rfl, by simp, h6, h8, h9, h10⟩
theorem kReplica_ownmk {B : Nat} {w : World} (x : SReplica) {A5 : Option Addr} {c5 : Nat} {A7 : Option Addr} {c7 : Nat} {A8 : Option Addr} {c8 : Nat} {A9 : Option Addr} {c9 : Nat} {f5 f7 f8 f9 : List Nat} (h5 : OwnS kEntry 46 B w f5 (.slice A5 x.Log.length c5) x.Log) (h7 : OwnS kInt 2 B w f7 (.slice A7 x.Oks.length c7) x.Oks) (h8 : OwnS kBool 4 B w f8 (.slice A8 x.Asks.length c8) x.Asks) (h9 : OwnS kDoer 105 B w f9 (.slice A9 x.Doers.length c9) x.Doers) : kReplica.Own B w (f5 ++ (f7 ++ (f8 ++ f9))) [.int .i64 x.Id, .int .i64 x.Size, .int .i64 x.View, .bool x.Normal, .int .i64 x.Last, .slice A5 x.Log.length c5, .int .i64 x.Commit, .slice A7 x.Oks.length c7, .slice A8 x.Asks.length c8, .slice A9 x.Doers.length c9] x := by
  rw [show ((f5 ++ (f7 ++ (f8 ++ f9))) : List Nat) = ([] ++ ([] ++ ([] ++ ([] ++ ([] ++ (f5 ++ ([] ++ (f7 ++ (f8 ++ f9))))))))) by simp]
  exact ⟨[], ([] ++ ([] ++ ([] ++ ([] ++ (f5 ++ ([] ++ (f7 ++ (f8 ++ f9)))))))), _, _, rfl, rfl, ⟨rfl, rfl⟩, ⟨[], ([] ++ ([] ++ ([] ++ (f5 ++ ([] ++ (f7 ++ (f8 ++ f9))))))), _, _, rfl, rfl, ⟨rfl, rfl⟩, ⟨[], ([] ++ ([] ++ (f5 ++ ([] ++ (f7 ++ (f8 ++ f9)))))), _, _, rfl, rfl, ⟨rfl, rfl⟩, ⟨[], ([] ++ (f5 ++ ([] ++ (f7 ++ (f8 ++ f9))))), _, _, rfl, rfl, ⟨rfl, rfl⟩, ⟨[], (f5 ++ ([] ++ (f7 ++ (f8 ++ f9)))), _, _, rfl, rfl, ⟨rfl, rfl⟩, ⟨f5, ([] ++ (f7 ++ (f8 ++ f9))), _, _, rfl, rfl, ⟨_, rfl, h5⟩, ⟨[], (f7 ++ (f8 ++ f9)), _, _, rfl, rfl, ⟨rfl, rfl⟩, ⟨f7, (f8 ++ f9), _, _, rfl, rfl, ⟨_, rfl, h7⟩, ⟨f8, f9, _, _, rfl, rfl, ⟨_, rfl, h8⟩, ⟨_, rfl, h9⟩⟩⟩⟩⟩⟩⟩⟩⟩⟩
/-- A value's parts, all owned, each in blocks of its own. -/
def HasReplica (B : Nat) (w : World) (x : SReplica) (A5 : Option Addr) (c5 : Nat) (A7 : Option Addr) (c7 : Nat) (A8 : Option Addr) (c8 : Nat) (A9 : Option Addr) (c9 : Nat) (f5 f7 f8 f9 : List Nat) : Prop := OwnS kEntry 46 B w f5 (.slice A5 x.Log.length c5) x.Log ∧ OwnS kInt 2 B w f7 (.slice A7 x.Oks.length c7) x.Oks ∧ OwnS kBool 4 B w f8 (.slice A8 x.Asks.length c8) x.Asks ∧ OwnS kDoer 105 B w f9 (.slice A9 x.Doers.length c9) x.Doers ∧ ((f5 ++ (f7 ++ (f8 ++ f9))) : List Nat).Nodup
theorem kMail_own {B : Nat} {w : World} {fp : List Nat} {cs : List Value} {x : SMail} (h : kMail.Own B w fp cs x) : ∃ (A13 : Option Addr) (c13 : Nat) (f13 : List Nat), cs = [.int .i64 x.Kind, .int .i64 x.From, .int .i64 x.To, .int .i64 x.View, .int .i64 x.At, .bool x.Has, .int .i64 x.Entry.Client, .int .i64 x.Entry.Seq, .int .i64 x.Entry.Op.Kind, .int .i64 x.Entry.Op.Vol, .int .i64 x.Entry.Op.At, .int .i64 x.Entry.Op.Value, .int .i64 x.Last, .slice A13 x.Log.length c13, .int .i64 x.Commit] ∧ fp = f13 ∧ OwnS kEntry 46 B w f13 (.slice A13 x.Log.length c13) x.Log := by
  obtain ⟨_, _, _, _, rfl, rfl, ⟨rfl, rfl⟩, ⟨_, _, _, _, rfl, rfl, ⟨rfl, rfl⟩, ⟨_, _, _, _, rfl, rfl, ⟨rfl, rfl⟩, ⟨_, _, _, _, rfl, rfl, ⟨rfl, rfl⟩, ⟨_, _, _, _, rfl, rfl, ⟨rfl, rfl⟩, ⟨_, _, _, _, rfl, rfl, ⟨rfl, rfl⟩, ⟨_, _, _, _, rfl, rfl, g7, ⟨_, _, _, _, rfl, rfl, ⟨rfl, rfl⟩, ⟨_, _, _, _, rfl, rfl, ⟨_, rfl, h9⟩, ⟨rfl, rfl⟩⟩⟩⟩⟩⟩⟩⟩⟩⟩ := h
  obtain ⟨rfl, rfl⟩ := kEntry_own g7
  obtain ⟨_, _, rfl, _⟩ := h9.form
  exact ⟨_, _, _, rfl, by simp, h9⟩
theorem kMail_ownmk {B : Nat} {w : World} (x : SMail) {A13 : Option Addr} {c13 : Nat} {f13 : List Nat} (h13 : OwnS kEntry 46 B w f13 (.slice A13 x.Log.length c13) x.Log) : kMail.Own B w f13 [.int .i64 x.Kind, .int .i64 x.From, .int .i64 x.To, .int .i64 x.View, .int .i64 x.At, .bool x.Has, .int .i64 x.Entry.Client, .int .i64 x.Entry.Seq, .int .i64 x.Entry.Op.Kind, .int .i64 x.Entry.Op.Vol, .int .i64 x.Entry.Op.At, .int .i64 x.Entry.Op.Value, .int .i64 x.Last, .slice A13 x.Log.length c13, .int .i64 x.Commit] x := by
  rw [show (f13 : List Nat) = ([] ++ ([] ++ ([] ++ ([] ++ ([] ++ ([] ++ (([] ++ ([] ++ ([] ++ ([] ++ ([] ++ []))))) ++ ([] ++ (f13 ++ []))))))))) by simp]
  exact ⟨[], ([] ++ ([] ++ ([] ++ ([] ++ ([] ++ (([] ++ ([] ++ ([] ++ ([] ++ ([] ++ []))))) ++ ([] ++ (f13 ++ [])))))))), _, _, rfl, rfl, ⟨rfl, rfl⟩, ⟨[], ([] ++ ([] ++ ([] ++ ([] ++ (([] ++ ([] ++ ([] ++ ([] ++ ([] ++ []))))) ++ ([] ++ (f13 ++ []))))))), _, _, rfl, rfl, ⟨rfl, rfl⟩, ⟨[], ([] ++ ([] ++ ([] ++ (([] ++ ([] ++ ([] ++ ([] ++ ([] ++ []))))) ++ ([] ++ (f13 ++ [])))))), _, _, rfl, rfl, ⟨rfl, rfl⟩, ⟨[], ([] ++ ([] ++ (([] ++ ([] ++ ([] ++ ([] ++ ([] ++ []))))) ++ ([] ++ (f13 ++ []))))), _, _, rfl, rfl, ⟨rfl, rfl⟩, ⟨[], ([] ++ (([] ++ ([] ++ ([] ++ ([] ++ ([] ++ []))))) ++ ([] ++ (f13 ++ [])))), _, _, rfl, rfl, ⟨rfl, rfl⟩, ⟨[], (([] ++ ([] ++ ([] ++ ([] ++ ([] ++ []))))) ++ ([] ++ (f13 ++ []))), _, _, rfl, rfl, ⟨rfl, rfl⟩, ⟨([] ++ ([] ++ ([] ++ ([] ++ ([] ++ []))))), ([] ++ (f13 ++ [])), _, _, rfl, rfl, ⟨[], ([] ++ ([] ++ ([] ++ ([] ++ [])))), _, _, rfl, rfl, ⟨rfl, rfl⟩, ⟨[], ([] ++ ([] ++ ([] ++ []))), _, _, rfl, rfl, ⟨rfl, rfl⟩, ⟨[], ([] ++ ([] ++ [])), _, _, rfl, rfl, ⟨rfl, rfl⟩, ⟨[], ([] ++ []), _, _, rfl, rfl, ⟨rfl, rfl⟩, ⟨[], [], _, _, rfl, rfl, ⟨rfl, rfl⟩, ⟨rfl, rfl⟩⟩⟩⟩⟩⟩, ⟨[], (f13 ++ []), _, _, rfl, rfl, ⟨rfl, rfl⟩, ⟨f13, [], _, _, rfl, rfl, ⟨_, rfl, h13⟩, ⟨rfl, rfl⟩⟩⟩⟩⟩⟩⟩⟩⟩⟩
/-- A value's parts, all owned, each in blocks of its own. -/
def HasMail (B : Nat) (w : World) (x : SMail) (A13 : Option Addr) (c13 : Nat) (f13 : List Nat) : Prop := OwnS kEntry 46 B w f13 (.slice A13 x.Log.length c13) x.Log ∧ (f13 : List Nat).Nodup
theorem kCluster_own {B : Nat} {w : World} {fp : List Nat} {cs : List Value} {x : SCluster} (h : kCluster.Own B w fp cs x) : ∃ (A0 : Option Addr) (c0 : Nat) (A1 : Option Addr) (c1 : Nat) (A2 : Option Addr) (c2 : Nat) (f0 f1 f2 : List Nat), cs = [.slice A0 x.Nodes.length c0, .slice A1 x.Mails.length c1, .slice A2 x.Sealed.length c2] ∧ fp = (f0 ++ (f1 ++ f2)) ∧ OwnS kReplica 60 B w f0 (.slice A0 x.Nodes.length c0) x.Nodes ∧ OwnS kMail 75 B w f1 (.slice A1 x.Mails.length c1) x.Mails ∧ OwnS kEntry 46 B w f2 (.slice A2 x.Sealed.length c2) x.Sealed := by
  obtain ⟨_, _, _, _, rfl, rfl, ⟨_, rfl, h1⟩, ⟨_, _, _, _, rfl, rfl, ⟨_, rfl, h2⟩, ⟨_, rfl, h3⟩⟩⟩ := h
  obtain ⟨_, _, rfl, _⟩ := h1.form
  obtain ⟨_, _, rfl, _⟩ := h2.form
  obtain ⟨_, _, rfl, _⟩ := h3.form
  exact ⟨_, _, _, _, _, _, _, _, _, rfl, by simp, h1, h2, h3⟩
theorem kCluster_ownmk {B : Nat} {w : World} (x : SCluster) {A0 : Option Addr} {c0 : Nat} {A1 : Option Addr} {c1 : Nat} {A2 : Option Addr} {c2 : Nat} {f0 f1 f2 : List Nat} (h0 : OwnS kReplica 60 B w f0 (.slice A0 x.Nodes.length c0) x.Nodes) (h1 : OwnS kMail 75 B w f1 (.slice A1 x.Mails.length c1) x.Mails) (h2 : OwnS kEntry 46 B w f2 (.slice A2 x.Sealed.length c2) x.Sealed) : kCluster.Own B w (f0 ++ (f1 ++ f2)) [.slice A0 x.Nodes.length c0, .slice A1 x.Mails.length c1, .slice A2 x.Sealed.length c2] x := by
  rw [show ((f0 ++ (f1 ++ f2)) : List Nat) = (f0 ++ (f1 ++ f2)) by simp]
  exact ⟨f0, (f1 ++ f2), _, _, rfl, rfl, ⟨_, rfl, h0⟩, ⟨f1, f2, _, _, rfl, rfl, ⟨_, rfl, h1⟩, ⟨_, rfl, h2⟩⟩⟩
/-- A value's parts, all owned, each in blocks of its own. -/
def HasCluster (B : Nat) (w : World) (x : SCluster) (A0 : Option Addr) (c0 : Nat) (A1 : Option Addr) (c1 : Nat) (A2 : Option Addr) (c2 : Nat) (f0 f1 f2 : List Nat) : Prop := OwnS kReplica 60 B w f0 (.slice A0 x.Nodes.length c0) x.Nodes ∧ OwnS kMail 75 B w f1 (.slice A1 x.Mails.length c1) x.Mails ∧ OwnS kEntry 46 B w f2 (.slice A2 x.Sealed.length c2) x.Sealed ∧ ((f0 ++ (f1 ++ f2)) : List Nat).Nodup
theorem kReplicaResult_own {B : Nat} {w : World} {fp : List Nat} {cs : List Value} {x : SReplicaResult} (h : kReplicaResult.Own B w fp cs x) : ∃ (A6 : Option Addr) (c6 : Nat) (A8 : Option Addr) (c8 : Nat) (A9 : Option Addr) (c9 : Nat) (A10 : Option Addr) (c10 : Nat) (A11 : Option Addr) (c11 : Nat) (f6 f8 f9 f10 f11 : List Nat), cs = [.int .i64 x.Code, .int .i64 x.Replica.Id, .int .i64 x.Replica.Size, .int .i64 x.Replica.View, .bool x.Replica.Normal, .int .i64 x.Replica.Last, .slice A6 x.Replica.Log.length c6, .int .i64 x.Replica.Commit, .slice A8 x.Replica.Oks.length c8, .slice A9 x.Replica.Asks.length c9, .slice A10 x.Replica.Doers.length c10, .slice A11 x.Send.length c11] ∧ fp = (f6 ++ (f8 ++ (f9 ++ (f10 ++ f11)))) ∧ OwnS kEntry 46 B w f6 (.slice A6 x.Replica.Log.length c6) x.Replica.Log ∧ OwnS kInt 2 B w f8 (.slice A8 x.Replica.Oks.length c8) x.Replica.Oks ∧ OwnS kBool 4 B w f9 (.slice A9 x.Replica.Asks.length c9) x.Replica.Asks ∧ OwnS kDoer 105 B w f10 (.slice A10 x.Replica.Doers.length c10) x.Replica.Doers ∧ OwnS kMail 75 B w f11 (.slice A11 x.Send.length c11) x.Send := by
  obtain ⟨_, _, _, _, rfl, rfl, ⟨rfl, rfl⟩, ⟨_, _, _, _, rfl, rfl, g2, ⟨_, rfl, h3⟩⟩⟩ := h
  obtain ⟨_, _, _, _, _, _, _, _, _, _, _, _, rfl, rfl, g2_0, g2_1, g2_2, g2_3⟩ := kReplica_own g2
  obtain ⟨_, _, rfl, _⟩ := h3.form
  exact ⟨_, _, _, _, _, _, _, _, _, _, _, _, _, _, _, rfl, by simp, g2_0, g2_1, g2_2, g2_3, h3⟩
theorem kReplicaResult_ownmk {B : Nat} {w : World} (x : SReplicaResult) {A6 : Option Addr} {c6 : Nat} {A8 : Option Addr} {c8 : Nat} {A9 : Option Addr} {c9 : Nat} {A10 : Option Addr} {c10 : Nat} {A11 : Option Addr} {c11 : Nat} {f6 f8 f9 f10 f11 : List Nat} (h6 : OwnS kEntry 46 B w f6 (.slice A6 x.Replica.Log.length c6) x.Replica.Log) (h8 : OwnS kInt 2 B w f8 (.slice A8 x.Replica.Oks.length c8) x.Replica.Oks) (h9 : OwnS kBool 4 B w f9 (.slice A9 x.Replica.Asks.length c9) x.Replica.Asks) (h10 : OwnS kDoer 105 B w f10 (.slice A10 x.Replica.Doers.length c10) x.Replica.Doers) (h11 : OwnS kMail 75 B w f11 (.slice A11 x.Send.length c11) x.Send) : kReplicaResult.Own B w (f6 ++ (f8 ++ (f9 ++ (f10 ++ f11)))) [.int .i64 x.Code, .int .i64 x.Replica.Id, .int .i64 x.Replica.Size, .int .i64 x.Replica.View, .bool x.Replica.Normal, .int .i64 x.Replica.Last, .slice A6 x.Replica.Log.length c6, .int .i64 x.Replica.Commit, .slice A8 x.Replica.Oks.length c8, .slice A9 x.Replica.Asks.length c9, .slice A10 x.Replica.Doers.length c10, .slice A11 x.Send.length c11] x := by
  rw [show ((f6 ++ (f8 ++ (f9 ++ (f10 ++ f11)))) : List Nat) = ([] ++ (([] ++ ([] ++ ([] ++ ([] ++ ([] ++ (f6 ++ ([] ++ (f8 ++ (f9 ++ f10))))))))) ++ f11)) by simp]
  exact ⟨[], (([] ++ ([] ++ ([] ++ ([] ++ ([] ++ (f6 ++ ([] ++ (f8 ++ (f9 ++ f10))))))))) ++ f11), _, _, rfl, rfl, ⟨rfl, rfl⟩, ⟨([] ++ ([] ++ ([] ++ ([] ++ ([] ++ (f6 ++ ([] ++ (f8 ++ (f9 ++ f10))))))))), f11, _, _, rfl, rfl, ⟨[], ([] ++ ([] ++ ([] ++ ([] ++ (f6 ++ ([] ++ (f8 ++ (f9 ++ f10)))))))), _, _, rfl, rfl, ⟨rfl, rfl⟩, ⟨[], ([] ++ ([] ++ ([] ++ (f6 ++ ([] ++ (f8 ++ (f9 ++ f10))))))), _, _, rfl, rfl, ⟨rfl, rfl⟩, ⟨[], ([] ++ ([] ++ (f6 ++ ([] ++ (f8 ++ (f9 ++ f10)))))), _, _, rfl, rfl, ⟨rfl, rfl⟩, ⟨[], ([] ++ (f6 ++ ([] ++ (f8 ++ (f9 ++ f10))))), _, _, rfl, rfl, ⟨rfl, rfl⟩, ⟨[], (f6 ++ ([] ++ (f8 ++ (f9 ++ f10)))), _, _, rfl, rfl, ⟨rfl, rfl⟩, ⟨f6, ([] ++ (f8 ++ (f9 ++ f10))), _, _, rfl, rfl, ⟨_, rfl, h6⟩, ⟨[], (f8 ++ (f9 ++ f10)), _, _, rfl, rfl, ⟨rfl, rfl⟩, ⟨f8, (f9 ++ f10), _, _, rfl, rfl, ⟨_, rfl, h8⟩, ⟨f9, f10, _, _, rfl, rfl, ⟨_, rfl, h9⟩, ⟨_, rfl, h10⟩⟩⟩⟩⟩⟩⟩⟩⟩⟩, ⟨_, rfl, h11⟩⟩⟩
/-- A value's parts, all owned, each in blocks of its own. -/
def HasReplicaResult (B : Nat) (w : World) (x : SReplicaResult) (A6 : Option Addr) (c6 : Nat) (A8 : Option Addr) (c8 : Nat) (A9 : Option Addr) (c9 : Nat) (A10 : Option Addr) (c10 : Nat) (A11 : Option Addr) (c11 : Nat) (f6 f8 f9 f10 f11 : List Nat) : Prop := OwnS kEntry 46 B w f6 (.slice A6 x.Replica.Log.length c6) x.Replica.Log ∧ OwnS kInt 2 B w f8 (.slice A8 x.Replica.Oks.length c8) x.Replica.Oks ∧ OwnS kBool 4 B w f9 (.slice A9 x.Replica.Asks.length c9) x.Replica.Asks ∧ OwnS kDoer 105 B w f10 (.slice A10 x.Replica.Doers.length c10) x.Replica.Doers ∧ OwnS kMail 75 B w f11 (.slice A11 x.Send.length c11) x.Send ∧ ((f6 ++ (f8 ++ (f9 ++ (f10 ++ f11)))) : List Nat).Nodup
theorem kClusterResult_own {B : Nat} {w : World} {fp : List Nat} {cs : List Value} {x : SClusterResult} (h : kClusterResult.Own B w fp cs x) : ∃ (A1 : Option Addr) (c1 : Nat) (A2 : Option Addr) (c2 : Nat) (A3 : Option Addr) (c3 : Nat) (f1 f2 f3 : List Nat), cs = [.int .i64 x.Code, .slice A1 x.Cluster.Nodes.length c1, .slice A2 x.Cluster.Mails.length c2, .slice A3 x.Cluster.Sealed.length c3] ∧ fp = (f1 ++ (f2 ++ f3)) ∧ OwnS kReplica 60 B w f1 (.slice A1 x.Cluster.Nodes.length c1) x.Cluster.Nodes ∧ OwnS kMail 75 B w f2 (.slice A2 x.Cluster.Mails.length c2) x.Cluster.Mails ∧ OwnS kEntry 46 B w f3 (.slice A3 x.Cluster.Sealed.length c3) x.Cluster.Sealed := by
  obtain ⟨_, _, _, _, rfl, rfl, ⟨rfl, rfl⟩, g2⟩ := h
  obtain ⟨_, _, _, _, _, _, _, _, _, rfl, rfl, g2_0, g2_1, g2_2⟩ := kCluster_own g2
  exact ⟨_, _, _, _, _, _, _, _, _, rfl, by simp, g2_0, g2_1, g2_2⟩
theorem kClusterResult_ownmk {B : Nat} {w : World} (x : SClusterResult) {A1 : Option Addr} {c1 : Nat} {A2 : Option Addr} {c2 : Nat} {A3 : Option Addr} {c3 : Nat} {f1 f2 f3 : List Nat} (h1 : OwnS kReplica 60 B w f1 (.slice A1 x.Cluster.Nodes.length c1) x.Cluster.Nodes) (h2 : OwnS kMail 75 B w f2 (.slice A2 x.Cluster.Mails.length c2) x.Cluster.Mails) (h3 : OwnS kEntry 46 B w f3 (.slice A3 x.Cluster.Sealed.length c3) x.Cluster.Sealed) : kClusterResult.Own B w (f1 ++ (f2 ++ f3)) [.int .i64 x.Code, .slice A1 x.Cluster.Nodes.length c1, .slice A2 x.Cluster.Mails.length c2, .slice A3 x.Cluster.Sealed.length c3] x := by
  rw [show ((f1 ++ (f2 ++ f3)) : List Nat) = ([] ++ (f1 ++ (f2 ++ f3))) by simp]
  exact ⟨[], (f1 ++ (f2 ++ f3)), _, _, rfl, rfl, ⟨rfl, rfl⟩, ⟨f1, (f2 ++ f3), _, _, rfl, rfl, ⟨_, rfl, h1⟩, ⟨f2, f3, _, _, rfl, rfl, ⟨_, rfl, h2⟩, ⟨_, rfl, h3⟩⟩⟩⟩
/-- A value's parts, all owned, each in blocks of its own. -/
def HasClusterResult (B : Nat) (w : World) (x : SClusterResult) (A1 : Option Addr) (c1 : Nat) (A2 : Option Addr) (c2 : Nat) (A3 : Option Addr) (c3 : Nat) (f1 f2 f3 : List Nat) : Prop := OwnS kReplica 60 B w f1 (.slice A1 x.Cluster.Nodes.length c1) x.Cluster.Nodes ∧ OwnS kMail 75 B w f2 (.slice A2 x.Cluster.Mails.length c2) x.Cluster.Mails ∧ OwnS kEntry 46 B w f3 (.slice A3 x.Cluster.Sealed.length c3) x.Cluster.Sealed ∧ ((f1 ++ (f2 ++ f3)) : List Nat).Nodup
end Go.Proofs.YtfblopmploohkaaGreatDoor
