/- Marks of whole values; marks that are held (written by gM.py, own work). -/
import Derived.Test.YtjljnkbiakadeaaM1
set_option linter.unusedVariables false
set_option linter.unusedSimpArgs false
namespace Go.Proofs.Ytjljnkbiakadeaa
open Go Go.RowKit Mk

set_option maxRecDepth 100000 in
set_option maxHeartbeats 2000000 in
theorem heldInt64S_c (xs : List Int) (A : Option Addr) (c : Nat) (k : Int) (w : World) (h : RdS kInt w A c (mkL mkI ctI k xs)) (hk : 0 ≤ k) (hb : k + (ctL ctI xs : Nat) ≤ 4611686018427387904) :
    Calls Try.prog 43 #[.slice A xs.length c, .int .i64 k] w fun e' w' => e' = .returned (.int .i64 (k + (ctL ctI xs : Nat))) ∧ w' = w := by
  have hlen := h.le63
  rw [mkL_length] at hlen
  go_enter Try.func43, Try.ntmps43
  go_wp2_with fail
  go_loopw [1, 5] (fun q i W => ∃ m : Nat, m ≤ xs.length ∧ i = .int .i64 m ∧ q = .int .i64 (k + (ctL ctI (xs.take m) : Nat)) ∧ W = w) (fun _ i _ => xs.length - (intOf i).toNat)
  case atStart => exact ⟨0, Nat.zero_le _, rfl, by simp [ctL], rfl⟩
  case round =>
    obtain ⟨m, hm, rfl, rfl, rfl⟩ := hrel
    by_cases hlt : m < xs.length
    · have hlt' : (m : Int) < (xs.length : Int) := by omega
      have hc1 := ctL_take ctI xs m hlt
      have hc2 := ctL_le ctI xs (m + 1)
      obtain ⟨a, ea, hx⟩ := h.at_ (k := m) (by rw [mkL_length]; exact hlt)
      subst ea
      rw [mkL_get _ _ _ _ _ hlt] at hx
      clear h
      generalize xs[m] = x at hx hc1
      rw [hc1] at hc2
      have HG := Lib.hid hc1
      generalize hK : k + (ctL ctI (xs.take m) : Int) = q at hx ⊢
      have HQ := Lib.hid hK
      have hq0 : 0 ≤ q := by omega
      have hq1 : q + (ctI x : Nat) ≤ 4611686018427387904 := by omega
      clear hK hc1 hc2 hb hk
      simp only [show kInt.sz = 1 from rfl, Nat.mul_one] at hx
      obtain ⟨cs, hl, hcs⟩ := hx
      obtain rfl := hcs
      have q0 := hl.c0
      simp only [mkI] at q0
      clear hl
      replace hq1 : q + 1 ≤ 4611686018427387904 := by simp only [ctI] at hq1; omega
      go_wp2_with fail
      exact ⟨⟨m + 1, hlt, by go_num, congrArg (Value.int .i64) (by have h1 := HG.out; have h2 := HQ.out; simp only [ctI] at h1; omega), by first | rfl | trivial⟩, by simp [intOf]; omega⟩
    · have hk' : m = xs.length := by omega
      subst hk'
      rw [List.take_length]
      clear h
      go_wp2_with fail
      go_ret
      exact ⟨rfl, rfl⟩

set_option maxRecDepth 100000 in
set_option maxHeartbeats 2000000 in
theorem heldEntryS_c (xs : List SEntry) (A : Option Addr) (c : Nat) (k : Int) (w : World) (h : RdS kEntry w A c (mkL mkEntry ctEntry k xs)) (hk : 0 ≤ k) (hb : k + (ctL ctEntry xs : Nat) ≤ 4611686018427387904) :
    Calls Try.prog 76 #[.slice A xs.length c, .int .i64 k] w fun e' w' => e' = .returned (.int .i64 (k + (ctL ctEntry xs : Nat))) ∧ w' = w := by
  have hlen := h.le63
  rw [mkL_length] at hlen
  go_enter Try.func76, Try.ntmps76
  go_wp2_with fail
  go_loopw [1, 5] (fun q i W => ∃ m : Nat, m ≤ xs.length ∧ i = .int .i64 m ∧ q = .int .i64 (k + (ctL ctEntry (xs.take m) : Nat)) ∧ W = w) (fun _ i _ => xs.length - (intOf i).toNat)
  case atStart => exact ⟨0, Nat.zero_le _, rfl, by simp [ctL], rfl⟩
  case round =>
    obtain ⟨m, hm, rfl, rfl, rfl⟩ := hrel
    by_cases hlt : m < xs.length
    · have hlt' : (m : Int) < (xs.length : Int) := by omega
      have hc1 := ctL_take ctEntry xs m hlt
      have hc2 := ctL_le ctEntry xs (m + 1)
      obtain ⟨a, ea, hx⟩ := h.at_ (k := m) (by rw [mkL_length]; exact hlt)
      subst ea
      rw [mkL_get _ _ _ _ _ hlt] at hx
      clear h
      generalize xs[m] = x at hx hc1
      rw [hc1] at hc2
      have HG := Lib.hid hc1
      generalize hK : k + (ctL ctEntry (xs.take m) : Int) = q at hx ⊢
      have HQ := Lib.hid hK
      have hq0 : 0 ≤ q := by omega
      have hq1 : q + (ctEntry x : Nat) ≤ 4611686018427387904 := by omega
      clear hK hc1 hc2 hb hk
      replace hq1 : q + 1 + 1 + 1 + 1 + 1 + 1 ≤ 4611686018427387904 := by simp only [ctEntry] at hq1; omega
      simp only [show kEntry.sz = 6 from rfl] at hx
      have hq := atEntry hx
      simp only [mkEntry] at hq
      obtain ⟨q0, q1, q2, q3, q4, q5⟩ := hq
      clear hx
      go_wp2_with fail
      exact ⟨⟨m + 1, hlt, by go_num, congrArg (Value.int .i64) (by have h1 := HG.out; have h2 := HQ.out; simp only [ctEntry] at h1; omega), by first | rfl | trivial⟩, by simp [intOf]; omega⟩
    · have hk' : m = xs.length := by omega
      subst hk'
      rw [List.take_length]
      clear h
      go_wp2_with fail
      go_ret
      exact ⟨rfl, rfl⟩

set_option maxRecDepth 100000 in
set_option maxHeartbeats 2000000 in
theorem markEntriesResult_c (x : SEntriesResult) (A1 : Option Addr) (c1 : Nat) (k : Int) (B : Nat) (f1 : List Nat) (w : World) (h1 : OwnS kEntry 100 B w f1 (.slice A1 x.Entries.length c1) x.Entries) (nd : (f1 : List Nat).Nodup) (hk : 0 ≤ k) (hb : k + ↑(ctL ctEntry x.Entries) ≤ 4611686018427387904) :
    Calls Try.prog 33 #[.agg #[.int .i64 x.Code, .slice A1 x.Entries.length c1], .int .i64 k] w fun e' w' => e' = .returned (.int .i64 (k + ↑(ctL ctEntry x.Entries))) ∧ OwnS kEntry 100 B w' f1 (.slice A1 x.Entries.length c1) (mkL mkEntry ctEntry (k) x.Entries) ∧ Turn f1 w w' := by
  have n1 : 0 ≤ k + ↑(ctL ctEntry x.Entries) := by omega
  have i1 : ∀ b ∈ f1, b < w.heap.size := fun b hb => (h1.in b hb).2
  have hx0 : Blk (w.alloc (.cells #[.int .i64 x.Code, .slice A1 x.Entries.length c1] 57)) w.heap.size 57 [.int .i64 x.Code, .slice A1 x.Entries.length c1] := blk_alloc w [.int .i64 x.Code, .slice A1 x.Entries.length c1] _
  go_enter Try.func33, Try.ntmps33
  have h1 := OwnS.keep h1 (w' := (w.alloc (.cells #[.int .i64 x.Code, .slice A1 x.Entries.length c1] 57))) (fun b hb => Below.heap_alloc _ _ _ (i1 b hb))
  have ht : Turn f1 w (w.alloc (.cells #[.int .i64 x.Code, .slice A1 x.Entries.length c1] 57)) := (Turn.refl _ _).alloc _
  go_wp2_with fail
  refine Calls.mono (markEntryS_c x.Entries A1 c1 _ B f1 _ h1 (by first | exact nd | simp_all) (by omega) (by omega)) ?_
  rintro e0 w1 ⟨rfl, o1, t0⟩
  have ht := ht.trans (t0.mono (fq := f1) (by intro b hb; first | exact hb | (simp only [List.mem_append] at hb ⊢; grind)))
  have hx1 := Blk.keep hx0 (t0.block _ hx0.lt (by intro hm; (try simp only [List.mem_append] at hm); grind))
  go_wp2_with fail
  go_ret
  exact ⟨rfl, o1, ht⟩

set_option maxRecDepth 100000 in
set_option maxHeartbeats 2000000 in
theorem heldEntriesResult_c (x : SEntriesResult) (A1 : Option Addr) (c1 : Nat) (k : Int) (w : World) (h1 : RdS kEntry w A1 c1 (mkL mkEntry ctEntry (k) x.Entries)) (hk : 0 ≤ k) (hb : k + ↑(ctL ctEntry x.Entries) ≤ 4611686018427387904) :
    Calls Try.prog 34 #[.agg #[.int .i64 x.Code, .slice A1 x.Entries.length c1], .int .i64 k] w fun e' w' => e' = .returned (.int .i64 (k + ↑(ctL ctEntry x.Entries))) ∧ Below w.heap.size w w' := by
  have n1 : 0 ≤ k + ↑(ctL ctEntry x.Entries) := by omega
  have hx0 : Blk (w.alloc (.cells #[.int .i64 x.Code, .slice A1 x.Entries.length c1] 57)) w.heap.size 57 [.int .i64 x.Code, .slice A1 x.Entries.length c1] := blk_alloc w [.int .i64 x.Code, .slice A1 x.Entries.length c1] _
  go_enter Try.func34, Try.ntmps34
  have hb0 : Below w.heap.size w (w.alloc (.cells #[.int .i64 x.Code, .slice A1 x.Entries.length c1] 57)) := below_alloc (Below.refl _ _) _
  go_wp2_with fail
  refine Calls.mono (heldEntryS_c x.Entries A1 c1 _ _ (h1.below (by repeat (first | (with_reducible assumption) | (with_reducible exact Below.refl _ _) | (with_reducible apply below_alloc) | (with_reducible apply below_drewN) | (with_reducible apply Below.drew) | (with_reducible refine below_set ?_ (by dsimp only; omega) _) | (with_reducible refine below_trans ?_ (by assumption))))) (by omega) (by omega)) ?_
  rintro e0 w1 ⟨rfl, rfl⟩
  go_wp2_with fail
  go_ret
  exact ⟨rfl, by repeat (first | (with_reducible assumption) | (with_reducible exact Below.refl _ _) | (with_reducible apply below_alloc) | (with_reducible apply below_drewN) | (with_reducible apply Below.drew) | (with_reducible refine below_set ?_ (by dsimp only; omega) _) | (with_reducible refine below_trans ?_ (by assumption)))⟩

set_option maxRecDepth 100000 in
set_option maxHeartbeats 2000000 in
theorem markCluster_c (x : SCluster) (A0 : Option Addr) (c0 : Nat) (A1 : Option Addr) (c1 : Nat) (A2 : Option Addr) (c2 : Nat) (k : Int) (B : Nat) (f0 : List Nat) (f1 : List Nat) (f2 : List Nat) (w : World) (h0 : OwnS kReplica 78 B w f0 (.slice A0 x.Nodes.length c0) x.Nodes) (h1 : OwnS kMail 114 B w f1 (.slice A1 x.Mails.length c1) x.Mails) (h2 : OwnS kEntry 100 B w f2 (.slice A2 x.Sealed.length c2) x.Sealed) (nd : ((f0 ++ (f1 ++ f2)) : List Nat).Nodup) (hk : 0 ≤ k) (hb : k + ↑(ctL ctReplica x.Nodes) + ↑(ctL ctMail x.Mails) + ↑(ctL ctEntry x.Sealed) ≤ 4611686018427387904) :
    Calls Try.prog 32 #[.agg #[.slice A0 x.Nodes.length c0, .slice A1 x.Mails.length c1, .slice A2 x.Sealed.length c2], .int .i64 k] w fun e' w' => e' = .returned (.int .i64 (k + ↑(ctL ctReplica x.Nodes) + ↑(ctL ctMail x.Mails) + ↑(ctL ctEntry x.Sealed))) ∧ OwnS kReplica 78 B w' f0 (.slice A0 x.Nodes.length c0) (mkL mkReplica ctReplica (k) x.Nodes) ∧ OwnS kMail 114 B w' f1 (.slice A1 x.Mails.length c1) (mkL mkMail ctMail (k + ↑(ctL ctReplica x.Nodes)) x.Mails) ∧ OwnS kEntry 100 B w' f2 (.slice A2 x.Sealed.length c2) (mkL mkEntry ctEntry (k + ↑(ctL ctReplica x.Nodes) + ↑(ctL ctMail x.Mails)) x.Sealed) ∧ Turn (f0 ++ (f1 ++ f2)) w w' := by
  have n0 : 0 ≤ k + ↑(ctL ctReplica x.Nodes) := by omega
  have n1 : 0 ≤ k + ↑(ctL ctReplica x.Nodes) + ↑(ctL ctMail x.Mails) := by omega
  have n2 : 0 ≤ k + ↑(ctL ctReplica x.Nodes) + ↑(ctL ctMail x.Mails) + ↑(ctL ctEntry x.Sealed) := by omega
  have i0 : ∀ b ∈ f0, b < w.heap.size := fun b hb => (h0.in b hb).2
  have i1 : ∀ b ∈ f1, b < w.heap.size := fun b hb => (h1.in b hb).2
  have i2 : ∀ b ∈ f2, b < w.heap.size := fun b hb => (h2.in b hb).2
  simp only [List.nodup_append, List.mem_append] at nd
  have hx0 : Blk (w.alloc (.cells #[.slice A0 x.Nodes.length c0, .slice A1 x.Mails.length c1, .slice A2 x.Sealed.length c2] 40)) w.heap.size 40 [.slice A0 x.Nodes.length c0, .slice A1 x.Mails.length c1, .slice A2 x.Sealed.length c2] := blk_alloc w [.slice A0 x.Nodes.length c0, .slice A1 x.Mails.length c1, .slice A2 x.Sealed.length c2] _
  go_enter Try.func32, Try.ntmps32
  have h0 := OwnS.keep h0 (w' := (w.alloc (.cells #[.slice A0 x.Nodes.length c0, .slice A1 x.Mails.length c1, .slice A2 x.Sealed.length c2] 40))) (fun b hb => Below.heap_alloc _ _ _ (i0 b hb))
  have h1 := OwnS.keep h1 (w' := (w.alloc (.cells #[.slice A0 x.Nodes.length c0, .slice A1 x.Mails.length c1, .slice A2 x.Sealed.length c2] 40))) (fun b hb => Below.heap_alloc _ _ _ (i1 b hb))
  have h2 := OwnS.keep h2 (w' := (w.alloc (.cells #[.slice A0 x.Nodes.length c0, .slice A1 x.Mails.length c1, .slice A2 x.Sealed.length c2] 40))) (fun b hb => Below.heap_alloc _ _ _ (i2 b hb))
  have ht : Turn (f0 ++ (f1 ++ f2)) w (w.alloc (.cells #[.slice A0 x.Nodes.length c0, .slice A1 x.Mails.length c1, .slice A2 x.Sealed.length c2] 40)) := (Turn.refl _ _).alloc _
  go_wp2_with fail
  refine Calls.mono (markReplicaS_c x.Nodes A0 c0 _ B f0 _ h0 (by first | exact nd | simp_all) (by omega) (by omega)) ?_
  rintro e0 w1 ⟨rfl, o0, t0⟩
  have p0_1 := OwnS.turn h1 t0 (by intro b hb hm; (try simp only [List.mem_append] at hm); grind)
  have p0_2 := OwnS.turn h2 t0 (by intro b hb hm; (try simp only [List.mem_append] at hm); grind)
  have ht := ht.trans (t0.mono (fq := (f0 ++ (f1 ++ f2))) (by intro b hb; first | exact hb | (simp only [List.mem_append] at hb ⊢; grind)))
  have hx1 := Blk.keep hx0 (t0.block _ hx0.lt (by intro hm; (try simp only [List.mem_append] at hm); grind))
  have q0_1 := hx1.cell (j := 1) rfl
  go_wp2_with fail
  refine Calls.mono (markMailS_c x.Mails A1 c1 _ B f1 _ p0_1 (by first | exact nd | simp_all) (by omega) (by omega)) ?_
  rintro e1 w2 ⟨rfl, o1, t1⟩
  have p1_0 := OwnS.turn o0 t1 (by intro b hb hm; (try simp only [List.mem_append] at hm); grind)
  have p1_2 := OwnS.turn p0_2 t1 (by intro b hb hm; (try simp only [List.mem_append] at hm); grind)
  have ht := ht.trans (t1.mono (fq := (f0 ++ (f1 ++ f2))) (by intro b hb; first | exact hb | (simp only [List.mem_append] at hb ⊢; grind)))
  have hx2 := Blk.keep hx1 (t1.block _ hx1.lt (by intro hm; (try simp only [List.mem_append] at hm); grind))
  have q1_2 := hx2.cell (j := 2) rfl
  go_wp2_with fail
  refine Calls.mono (markEntryS_c x.Sealed A2 c2 _ B f2 _ p1_2 (by first | exact nd | simp_all) (by omega) (by omega)) ?_
  rintro e2 w3 ⟨rfl, o2, t2⟩
  have p2_0 := OwnS.turn p1_0 t2 (by intro b hb hm; (try simp only [List.mem_append] at hm); grind)
  have p2_1 := OwnS.turn o1 t2 (by intro b hb hm; (try simp only [List.mem_append] at hm); grind)
  have ht := ht.trans (t2.mono (fq := (f0 ++ (f1 ++ f2))) (by intro b hb; first | exact hb | (simp only [List.mem_append] at hb ⊢; grind)))
  have hx3 := Blk.keep hx2 (t2.block _ hx2.lt (by intro hm; (try simp only [List.mem_append] at hm); grind))
  go_wp2_with fail
  go_ret
  exact ⟨rfl, p2_0, p2_1, o2, ht⟩

end Go.Proofs.Ytjljnkbiakadeaa
