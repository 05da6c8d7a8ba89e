/- A faultless cluster in numbers; a cluster's result that is laid; bounds of marks (written by gJ5.py, own work). -/
import Derived.Test.YtfblopmploohkaaGreatDoorZJ4
import Derived.Test.YtfblopmploohkaaGreatDoorZH11
set_option linter.unusedVariables false
set_option linter.unusedSimpArgs false
namespace Go.Proofs.YtfblopmploohkaaGreatDoor
open Go Go.RowKit Mk
structure NumsClu (c : SCluster) : Prop where
  n1 : 1 ≤ c.Nodes.length
  n5 : c.Nodes.length ≤ 5
  mails : c.Mails.length ≤ 120
  node : ∀ i (h : i < c.Nodes.length), (repF c.Nodes[i] != 0) = false ∧ c.Nodes[i].Id = i ∧ c.Nodes[i].Size = c.Nodes.length
  mail : ∀ m ∈ c.Mails, mailInF c m = 0
  sld : logF c.Sealed = 0
theorem firstI_at {α : Type} {f : Nat → α → Int} : ∀ {xs : List α} {i : Nat}, firstI f i xs = 0 → ∀ j (h : j < xs.length), f (i + j) xs[j] = 0
  | [], i, _, j, h => by simp at h
  | y :: ys, i, hz, j, h => by
    unfold firstI at hz
    split at hz
    · rename_i q; rw [hz] at q; cases q
    · rename_i q
      cases j with
      | zero => simpa using q
      | succ j =>
        have := firstI_at hz j (by simpa using h)
        rw [show i + (j + 1) = i + 1 + j by omega]
        simpa using this
theorem clusF_nums {c : SCluster} (h : (clusF c != 0) = false) : NumsClu c := by
  have h0 : clusF c = 0 := by simpa using h
  unfold clusF at h0
  split at h0
  · cases h0
  rename_i q1
  split at h0
  · rename_i q; rw [h0] at q; cases q
  rename_i q2
  split at h0
  · rename_i q; rw [h0] at q; cases q
  rename_i q3
  simp only [Bool.or_eq_true, not_or, Bool.not_eq_true, Bool.not_eq_false', decide_eq_false_iff_not] at q1
  have q2' : firstI (nodeF c.Nodes.length) 0 c.Nodes = 0 := by simpa using q2
  have q3' : first (mailInF c) c.Mails = 0 := by simpa using q3
  have a1 := wi_b q1.1
  refine ⟨by omega, by omega, by omega, fun i hi => ?_, first_zero q3', h0⟩
  have hn := firstI_at q2' i hi
  simp only [Nat.zero_add] at hn
  unfold nodeF at hn
  split at hn
  · rename_i q; rw [hn] at q; cases q
  · rename_i q
    split at hn
    · cases hn
    · rename_i q'
      simp only [Bool.or_eq_true, not_or, bne_iff_ne, ne_eq, Decidable.not_not] at q'
      exact ⟨by simpa using q, q'.1, q'.2⟩
theorem mailT_log {n : SReplica} {m : SMail} (h : mailT n m = 0) : m.Log.length ≤ 40 := by
  unfold mailT at h
  split at h
  · cases h
  split at h
  · cases h
  split at h
  · rename_i q; rw [h] at q; simp at q
  rename_i q
  split at h
  · cases h
  split at h
  · rename_i q; rw [h] at q; simp at q
  split at h
  · cases h
  rename_i q6
  simp only [Bool.not_eq_true', Bool.not_eq_false] at q6
  by_cases hk : (m.Kind == 4 || m.Kind == 5) = true
  · rw [hk] at q; exact logF_len (by simpa using q)
  · have hk' : (m.Kind == 4 || m.Kind == 5) = false := by simpa using hk
    unfold bareB at q6
    simp only [Bool.and_eq_true] at q6
    have h3 := q6.1.1.2
    rw [hk', Bool.false_or] at h3
    simp at h3
    rw [h3]; simp
theorem mailInF_log {c : SCluster} {m : SMail} (h : mailInF c m = 0) : m.Log.length ≤ 40 := by
  unfold mailInF at h
  split at h
  · cases h
  · unfold mailF at h
    split at h
    · rename_i q; rw [h] at q; cases q
    · exact mailT_log h
theorem NumsClu.small {c : SCluster} (h : NumsClu c) : SmallClu c := by
  have h1 := h.n5
  have h2 := h.mails
  refine ⟨by omega, fun n hn => ?_, by omega, fun m hm => by have := mailInF_log (h.mail m hm); omega, by have := logF_len h.sld; omega⟩
  obtain ⟨i, hi, rfl⟩ := List.getElem_of_mem hn
  exact (repF_nums (h.node i hi).1).small
theorem doneClu_small {c : SCluster} {k : Nat} {n' : SReplica} {ms : List SMail} (h : SmallClu c) (hm : c.Mails.length ≤ 120) (hn : SmallRep n') (hms : SmallMails ms) : SmallClu (doneClu c k n' ms) := by
  obtain ⟨h1, h2, h3, h4, h5⟩ := h
  refine ⟨by simpa [doneClu] using h1, fun n hx => ?_, ?_, fun m hx => ?_, ?_⟩
  · rcases List.mem_or_eq_of_mem_set hx with hx | rfl
    · exact h2 n hx
    · exact hn
  · simp only [doneClu, List.length_append, List.length_take]; omega
  · rcases List.mem_append.1 hx with hx | hx
    · exact h4 m hx
    · exact hms.2 m (List.mem_of_mem_take hx)
  · simp only [doneClu]
    split
    · have := hn.1; simp only [List.length_take]; omega
    · exact h5
/-- What a call lays that answers so. -/
def LaidClusterResult (x : SClusterResult) (w : World) (r : Ending) (w' : World) : Prop := ∃ A1 c1 A2 c2 A3 c3 f1 f2 f3, r = .returned (.agg #[.int .i64 x.Code, .slice A1 x.Cluster.Nodes.length c1, .slice A2 x.Cluster.Mails.length c2, .slice A3 x.Cluster.Sealed.length c3]) ∧ HasClusterResult w.heap.size w' x A1 c1 A2 c2 A3 c3 f1 f2 f3 ∧ Below w.heap.size w w'
theorem LaidClusterResult.base {x : SClusterResult} {w w1 w' : World} {r : Ending} (h : LaidClusterResult x w1 r w') (hb : Below w.heap.size w w1) : LaidClusterResult x w r w' := by
  obtain ⟨A1, c1, A2, c2, A3, c3, f1, f2, f3, rfl, ⟨h1, h2, h3, nd⟩, b⟩ := h
  have hs := hb.size
  exact ⟨A1, c1, A2, c2, A3, c3, f1, f2, f3, rfl, ⟨h1.lift (fun b hb => by have := (h1.in b hb).1; omega), h2.lift (fun b hb => by have := (h2.in b hb).1; omega), h3.lift (fun b hb => by have := (h3.in b hb).1; omega), nd⟩, below_trans hb b⟩
def badClusterResult (k : Int) : SClusterResult := ⟨k, zCluster⟩
theorem LaidClusterResult.bad {w w' : World} (k : Int) (hb : Below w.heap.size w w') : LaidClusterResult (badClusterResult k) w (.returned (.agg #[.int .i64 k, .slice none 0 0, .slice none 0 0, .slice none 0 0])) w' :=
  ⟨none, 0, none, 0, none, 0, [], [], [], rfl, ⟨ownS_nil _ _ _, ownS_nil _ _ _, ownS_nil _ _ _, by simp⟩, hb⟩
theorem ownCluster_parts {B : Nat} {w : World} {fp : List Nat} {n : SCluster} {A0 A1 A2 : Option Addr} {l0 c0 l1 c1 l2 c2 : Nat} (h : kCluster.Own B w fp [.slice A0 l0 c0, .slice A1 l1 c1, .slice A2 l2 c2] n) (nd : fp.Nodup) :
    ∃ f0 f1 f2, fp = (f0 ++ (f1 ++ f2)) ∧ HasCluster B w n A0 c0 A1 c1 A2 c2 f0 f1 f2 := by
  obtain ⟨B0, d0, B1, d1, B2, d2, f0, f1, f2, he, hf, h0, h1, h2⟩ := kCluster_own h
  simp only [List.cons.injEq, Value.slice.injEq, and_true, true_and] at he
  obtain ⟨⟨rfl, _, rfl⟩, ⟨rfl, _, rfl⟩, ⟨rfl, _, rfl⟩⟩ := he
  exact ⟨f0, f1, f2, hf, h0, h1, h2, by rw [← hf]; exact nd⟩
theorem ctReplica_small {n : SReplica} (h : SmallRep n) : ctReplica n ≤ 20000000000010 := by
  have := ctRep_small h
  unfold ctReplica
  omega
theorem ctMail_small {m : SMail} (h : m.Log.length ≤ 1048576) : ctMail m ≤ 10000000 := by
  have := ctEntries m.Log
  unfold ctMail
  omega
theorem ctCluster_small {x : SCluster} (h : SmallClu x) : ctL ctReplica x.Nodes + ctL ctMail x.Mails + ctL ctEntry x.Sealed ≤ 100000000000000000 := by
  obtain ⟨h1, h2, h3, h4, h5⟩ := h
  have a1 := ctL_bound (ct := ctReplica) (xs := x.Nodes) (fun n hn => ctReplica_small (h2 n hn))
  have a2 := ctL_bound (ct := ctMail) (xs := x.Mails) (fun m hm => ctMail_small (h4 m hm))
  have a3 := ctEntries x.Sealed
  have b1 : x.Nodes.length * 20000000000010 ≤ 1000 * 20000000000010 := Nat.mul_le_mul_right _ h1
  have b2 : x.Mails.length * 10000000 ≤ 1000 * 10000000 := Nat.mul_le_mul_right _ h3
  omega
theorem ctL_tot {α : Type} {ct tot : α → Nat} {K : Nat} (h : ∀ x, ct x ≤ K * (1 + tot x)) : ∀ xs : List α, ctL ct xs ≤ K * totL tot xs
  | [] => by simp [ctL]
  | x :: xs => by
    have h1 := h x
    have h2 := ctL_tot h xs
    simp only [ctL, totL, List.length_cons, List.map_cons, List.sum_cons, Nat.mul_add, Nat.mul_one] at h1 h2 ⊢
    omega
theorem ctDoer_tot (d : SDoer) : ctDoer d ≤ 6 * (1 + totDoer d) := by
  have := ctEntries d.Log
  unfold ctDoer totDoer
  omega
theorem ctReplica_tot (n : SReplica) : ctReplica n ≤ 6 * (1 + totReplica n) := by
  have h1 := ctEntries n.Log
  have h2 := ctL_bound (ct := ctI) (m := 1) (xs := n.Oks) (fun _ _ => Nat.le_refl _)
  have h3 := ctL_bound (ct := ctB) (m := 1) (xs := n.Asks) (fun _ _ => Nat.le_refl _)
  have h4 := ctL_tot ctDoer_tot n.Doers
  unfold ctReplica totReplica
  omega
theorem ctMail_tot (m : SMail) : ctMail m ≤ 14 * (1 + totMail m) := by
  have h1 := ctEntries m.Log
  unfold ctMail totMail
  omega
theorem ctCluster_arg {x : SCluster} (h : totCluster x ≤ 1048576) : ctL ctReplica x.Nodes + ctL ctMail x.Mails + ctL ctEntry x.Sealed ≤ 100000000000000000 := by
  have h1 := ctL_tot ctReplica_tot x.Nodes
  have h2 := ctL_tot ctMail_tot x.Mails
  have h3 := ctEntries x.Sealed
  unfold totCluster at h
  omega
set_option maxRecDepth 100000 in
set_option maxHeartbeats 2000000 in
theorem do_bad (g : Nat) (cb : Array Value) (eg : ∀ args w, (callFunc g args).run Tryz.prog w = .ok (.enter g args) w) (b k : Nat) (x : SCluster) (n n' : SReplica) (ms : List SMail) (code : Int) (A0 : Option Addr) (c0 : Nat) (A1 : Option Addr) (c1 : Nat) (A2 : Option Addr) (c2 : Nat) (w : World) (hB : Blk w b 34 [.slice A0 x.Nodes.length c0, .slice A1 x.Mails.length c1, .slice A2 x.Sealed.length c2]) (h0 : RdS kReplica w A0 c0 x.Nodes) (h1 : RdS kMail w A1 c1 x.Mails) (h2 : RdS kEntry w A2 c2 x.Sealed)
    (hk : k < x.Nodes.length) (hn : x.Nodes[k] = n) (hs : SmallRep n) (hd : Does g cb n n' ms code w) (hcode : (code != 0) = true) :
    Calls Tryz.prog 99 #[.pointer (some ⟨b, 0, none⟩), .int .i64 k, .func (.func g) #[] cb] w fun r w' => r = .returned (.int .i64 code) ∧ Below w.heap.size w w' := by
  have hlt' : (k : Int) < (x.Nodes.length : Int) := by omega
  have q := hB.cell (j := 0) rfl
  obtain ⟨a, ea, hx⟩ := h0.at_ hk
  subst ea
  rw [hn] at hx
  simp only [show kReplica.sz = 10 from rfl] at hx
  obtain ⟨E5, e5, E7, e7, E8, e8, E9, e9, hq⟩ := atReplica hx
  obtain ⟨q0, q1, q2, q3, q4, q5, q6, q7, q8, q9, g5, g7, g8, g9⟩ := hq
  clear hn
  go_enter Tryz.func99, Tryz.ntmps99
  go_wp2_with fail
  clear q q0 q1 q2 q3 q4 q5 q6 q7 q8 q9
  refine (ownReplica_c n E5 e5 E7 e7 E8 e8 E9 e9 w g5 g7 g8 g9 hs).mono ?_
  rintro r w1 ⟨B5, d5, B7, d7, B8, d8, B9, d9, f5, f7, f8, f9, rfl, hn1, hb1⟩
  have s1 := hb1.size
  have k5 := hn1.1.in
  have k7 := hn1.2.1.in
  have k8 := hn1.2.2.1.in
  have k9 := hn1.2.2.2.1.in
  go_upto_region 2 with fail
  refine at_world (fun W => Blk W w1.heap.size 60 [.int .i64 n.Id, .int .i64 n.Size, .int .i64 n.View, .bool n.Normal, .int .i64 n.Last, .slice B5 n.Log.length d5, .int .i64 n.Commit, .slice B7 n.Oks.length d7, .slice B8 n.Asks.length d8, .slice B9 n.Doers.length d9] ∧ HasReplica w.heap.size W n B5 d5 B7 d7 B8 d8 B9 d9 f5 f7 f8 f9 ∧ Below w.heap.size w W ∧ w1.heap.size < W.heap.size) ⟨blk_alloc w1 [.int .i64 n.Id, .int .i64 n.Size, .int .i64 n.View, .bool n.Normal, .int .i64 n.Last, .slice B5 n.Log.length d5, .int .i64 n.Commit, .slice B7 n.Oks.length d7, .slice B8 n.Asks.length d8, .slice B9 n.Doers.length d9] _, ⟨OwnS.keep hn1.1 (fun b hb => Below.heap_alloc _ _ _ (k5 b hb).2), OwnS.keep hn1.2.1 (fun b hb => Below.heap_alloc _ _ _ (k7 b hb).2), OwnS.keep hn1.2.2.1 (fun b hb => Below.heap_alloc _ _ _ (k8 b hb).2), OwnS.keep hn1.2.2.2.1 (fun b hb => Below.heap_alloc _ _ _ (k9 b hb).2), hn1.2.2.2.2⟩, below_alloc hb1 _, by rw [Deep.nblk_alloc]; omega⟩ ?_
  rintro W2 ⟨nB, hn2, b2, s2⟩
  clear hn1 hb1
  have hnb : w1.heap.size ∉ f5 ++ (f7 ++ (f8 ++ f9)) := by
    simp only [List.mem_append, not_or]
    exact ⟨fun h => by have := (k5 _ h).2; omega, fun h => by have := (k7 _ h).2; omega, fun h => by have := (k8 _ h).2; omega, fun h => by have := (k9 _ h).2; omega⟩
  have hfl : ∀ y ∈ w1.heap.size :: (f5 ++ (f7 ++ (f8 ++ f9))), w.heap.size ≤ y := by
    intro y hy
    simp only [List.mem_cons, List.mem_append] at hy
    rcases hy with rfl | h | h | h | h
    · omega
    · exact (k5 y h).1
    · exact (k7 y h).1
    · exact (k8 y h).1
    · exact (k9 y h).1
  go_wp2_with fail
  refine (hd w1.heap.size B5 d5 B7 d7 B8 d8 B9 d9 f5 f7 f8 f9 w.heap.size W2 b2 nB hn2 hnb (by have := b2.size; omega)).mono ?_
  rintro r w3 ⟨C5, o5, C7, o7, C8, o8, C9, o9, g5', g7', g8', g9', As, cs, fs, rfl, oB3, hn3, hm3, nd3, nb3, t3, fr3⟩
  have b3 : Below w.heap.size w w3 := b2.trans (t3.below hfl (by have := b2.size; omega))
  clear oB3 hn3 hm3 t3 fr3 nB hn2 hd
  go_wp2_with fail
  go_ret
  exact ⟨rfl, b3⟩
end Go.Proofs.YtfblopmploohkaaGreatDoor
