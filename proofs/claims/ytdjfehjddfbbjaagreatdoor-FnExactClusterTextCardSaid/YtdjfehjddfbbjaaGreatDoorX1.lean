/- The text of a cluster, in plain words, and a line of words (own work). -/
import Derived.Test.YtdjfehjddfbbjaaGreatDoorU2
import Derived.Test.YtdjfehjddfbbjaaGreatDoorA7
set_option linter.unusedVariables false
set_option linter.unusedSimpArgs false
namespace Go.Proofs.YtdjfehjddfbbjaaGreatDoor
open Go Go.RowKit Mk
theorem lineB_size (wd : ByteArray) (ns : List Nat) (hn : ∀ n ∈ ns, n ≤ 1000) : (lineB wd ns).size ≤ wd.size + 1010 * ns.length := by
  induction ns generalizing wd with
  | nil => simp [lineB]
  | cons n ns ih =>
    have h := ih ((wd ++ ⟨#[32]⟩) ++ numS n) (fun m hm => hn m (List.mem_cons_of_mem _ hm))
    have h1 := hn n (List.mem_cons_self ..)
    have h2 := dec_len n
    rw [ByteArray.size_append, ByteArray.size_append, numS_size, show (⟨#[32]⟩ : ByteArray).size = 1 from rfl] at h
    simp only [lineB, List.length_cons]
    omega
theorem lineB_tail (wd : ByteArray) (ns : List Nat) : (lineB wd ns).data.toList = wd.data.toList ++ Lib.joinTail [32] (ns.map Lib.decDigits) := by
  induction ns generalizing wd with
  | nil => simp [lineB, Lib.joinTail]
  | cons n ns ih =>
    rw [lineB, ih]
    simp [Lib.joinTail, numS]
/-- Words with a space between. -/
def joinW (ws : List ByteArray) : ByteArray := ⟨(Lib.join (ws.map (·.data.toList)) [32]).toArray⟩
def nlB : ByteArray := ⟨#[10]⟩
def nodeW : ByteArray := ⟨#[110, 111, 100, 101]⟩
def mailsW : ByteArray := ⟨#[109, 97, 105, 108, 115]⟩
def normalW : ByteArray := ⟨#[110, 111, 114, 109, 97, 108]⟩
def changingW : ByteArray := ⟨#[99, 104, 97, 110, 103, 105, 110, 103]⟩
def howW (b : Bool) : ByteArray := if b then normalW else changingW
def howS (b : Bool) : ByteArray := ⟨#[32]⟩ ++ howW b
/-- The line of a node, without its end. -/
def nodeB (n : SReplica) : ByteArray := lineB (lineB nodeW [n.Id.toNat, n.View.toNat] ++ howS n.Normal) [n.Log.length, n.Commit.toNat]
def nodesB (acc : ByteArray) : List SReplica → ByteArray
  | [] => acc
  | n :: ns => nodesB (acc ++ nodeB n ++ nlB) ns
def lastB (c : SCluster) : ByteArray := lineB mailsW [c.Mails.length, c.Sealed.length]
def cluB (c : SCluster) : ByteArray := nodesB ByteArray.empty c.Nodes ++ lastB c ++ nlB
theorem nodesB_app (acc : ByteArray) : ∀ (xs : List SReplica) (n : SReplica), nodesB acc (xs ++ [n]) = nodesB acc xs ++ nodeB n ++ nlB
  | xs, n => by
    induction xs generalizing acc with
    | nil => rfl
    | cons x xs ih => exact ih _
theorem join_node (n : SReplica) : joinW [nodeW, numS n.Id.toNat, numS n.View.toNat, howW n.Normal, numS n.Log.length, numS n.Commit.toNat] = nodeB n := by
  apply ByteArray.ext
  apply Array.ext'
  unfold nodeB joinW
  rw [lineB_tail, ByteArray.data_append, Array.toList_append, lineB_tail]
  simp [Lib.join_cons, Lib.joinTail, numS, howS]
theorem join_last (a b : Nat) : joinW [mailsW, numS a, numS b] = lineB mailsW [a, b] := by
  apply ByteArray.ext
  apply Array.ext'
  unfold joinW
  rw [lineB_tail]
  simp [Lib.join_cons, Lib.joinTail, numS]
theorem nodeB_size {n : SReplica} (h1 : n.Id ≤ 1000) (h2 : n.View ≤ 1000) (h3 : n.Log.length ≤ 1000) (h4 : n.Commit ≤ 1000) : (nodeB n).size ≤ 5000 := by
  have a := lineB_size nodeW [n.Id.toNat, n.View.toNat] (by simp; omega)
  have b := lineB_size (lineB nodeW [n.Id.toNat, n.View.toNat] ++ howS n.Normal) [n.Log.length, n.Commit.toNat] (by simp; omega)
  have c : (howS n.Normal).size ≤ 9 := by cases n.Normal <;> decide
  have d : nodeW.size = 4 := by decide
  unfold nodeB
  rw [ByteArray.size_append] at b
  simp only [List.length_cons, List.length_nil] at a b
  omega
structure TxtOk (n : SReplica) : Prop where
  i0 : 0 ≤ n.Id
  i9 : n.Id ≤ 1000
  v0 : 0 ≤ n.View
  v9 : n.View ≤ 1000
  l9 : n.Log.length ≤ 1000
  c0 : 0 ≤ n.Commit
  c9 : n.Commit ≤ 1000
theorem logF_len {xs : List SEntry} (h : logF xs = 0) : xs.length ≤ 40 := by
  unfold logF at h
  split at h
  · cases h
  · omega
theorem repF_txt {n : SReplica} (h : (repF n != 0) = false) : TxtOk n := by
  have h' : repF n = 0 := by simpa using h
  unfold repF at h'
  split at h'
  · cases h'
  · rename_i q
    split at h'
    · rename_i q2; rw [h'] at q2; cases q2
    · rename_i q2
      split at h'
      · cases h'
      · rename_i q3
        simp only [Bool.not_eq_true', Bool.not_eq_false, Bool.and_eq_true] at q q3
        have a := wi_b q.1.1.1
        have b := wi_b q.1.1.2
        have d := wi_b q.1.2
        have e := wi_b q3
        have f := logF_len (xs := n.Log) (by simpa using q2)
        exact ⟨by omega, by omega, by omega, by omega, by omega, by omega, by omega⟩
theorem clusF_le5 {c : SCluster} (h : clusF c = 0) : c.Nodes.length ≤ 5 := by
  unfold clusF at h
  split at h
  · cases h
  · rename_i q
    simp only [Bool.or_eq_true, not_or, Bool.not_eq_true, Bool.not_eq_false'] at q
    have := wi_b q.1
    omega
theorem clusF_txt {c : SCluster} (h : clusF c = 0) : c.Mails.length ≤ 1000 ∧ c.Sealed.length ≤ 1000 := by
  unfold clusF at h
  split at h
  · cases h
  · rename_i q
    split at h
    · rename_i q2; rw [h] at q2; cases q2
    · split at h
      · rename_i q2; rw [h] at q2; cases q2
      · simp only [Bool.or_eq_true, not_or, decide_eq_true_eq] at q
        have := logF_len h
        omega
theorem textLine_c (ws : List ByteArray) (g : Nat) (W : World) (h : Blk W g 9 (ws.map Value.string)) (h1 : 1 ≤ ws.length) (hl : ws.length ≤ 10) (hs : (joinW ws).size ≤ 100000) :
    Calls Tryz.prog 37 #[.slice (some ⟨g, 0, none⟩) ws.length ws.length] W fun e w' => e = .returned (.string (joinW ws ++ nlB)) ∧ Below W.heap.size W w' := by
  have hlen : (Lib.join (ws.map (·.data.toList)) [32]).length ≤ 100000 := by
    have : (joinW ws).size = (Lib.join (ws.map (·.data.toList)) [32]).length := by simp [joinW, ByteArray.size]
    omega
  have HJ := Lib.hid (Any.strings_Join joinL joinX g 0 ws.length ws ⟨#[32]⟩ W (fun j x hx => by
      rw [Nat.zero_add]
      exact h.cell (j := j) (by rw [List.getElem?_map, hx]; rfl)) h.lt (by omega) (Nat.le_refl _) (by
        show (Lib.join (ws.map (·.data.toList)) [32]).length ≤ _
        omega))
  have hJ : ∀ e : Ending, e = .returned (.string ⟨(Lib.join (ws.map (·.data.toList)) [32]).toArray⟩) → e = .returned (.string (joinW ws)) := fun e he => he
  have hz : ¬ (9223372036854775807 : Nat) < (joinW ws).size + 1 := by omega
  generalize joinW ws = J at hJ hz
  clear hs hlen
  go_enter Tryz.func37, Tryz.ntmps37
  go_wp2_with fail
  refine (HJ.out).mono ?_
  rintro e w1 ⟨he, hb⟩
  obtain rfl := hJ _ he
  clear hJ he
  go_wp2_with fail
  go_ret
  exact ⟨rfl, hb⟩
end Go.Proofs.YtdjfehjddfbbjaaGreatDoor
