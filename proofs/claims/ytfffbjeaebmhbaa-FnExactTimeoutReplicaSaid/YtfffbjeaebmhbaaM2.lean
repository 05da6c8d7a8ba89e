/- Marks of whole values; marks that are held (written by gM.py, own work). -/
import Derived.Test.YtfffbjeaebmhbaaM1
set_option linter.unusedVariables false
set_option linter.unusedSimpArgs false
namespace Go.Proofs.Ytfffbjeaebmhbaa
open Go Go.RowKit Mk

set_option maxRecDepth 100000 in
set_option maxHeartbeats 2000000 in
theorem heldInt64S_c (xs : List Int) (A : Option Addr) (c : Nat) (k : Int) (w : World) (h : RdS kInt w A c (mkL mkI ctI k xs)) (hk : 0 ≤ k) (hb : k + (ctL ctI xs : Nat) ≤ 4611686018427387904) :
    Calls Try.prog 68 #[.slice A xs.length c, .int .i64 k] w fun e' w' => e' = .returned (.int .i64 (k + (ctL ctI xs : Nat))) ∧ w' = w := by
  have hlen := h.le63
  rw [mkL_length] at hlen
  go_enter Try.func68, Try.ntmps68
  go_wp2_with fail
  go_loopw [1, 5] (fun q i W => ∃ m : Nat, m ≤ xs.length ∧ i = .int .i64 m ∧ q = .int .i64 (k + (ctL ctI (xs.take m) : Nat)) ∧ W = w) (fun _ i _ => xs.length - (intOf i).toNat)
  case atStart => exact ⟨0, Nat.zero_le _, rfl, by simp [ctL], rfl⟩
  case round =>
    obtain ⟨m, hm, rfl, rfl, rfl⟩ := hrel
    by_cases hlt : m < xs.length
    · have hlt' : (m : Int) < (xs.length : Int) := by omega
      have hc1 := ctL_take ctI xs m hlt
      have hc2 := ctL_le ctI xs (m + 1)
      obtain ⟨a, ea, hx⟩ := h.at_ (k := m) (by rw [mkL_length]; exact hlt)
      subst ea
      rw [mkL_get _ _ _ _ _ hlt] at hx
      clear h
      generalize xs[m] = x at hx hc1
      rw [hc1] at hc2
      have HG := Lib.hid hc1
      generalize hK : k + (ctL ctI (xs.take m) : Int) = q at hx ⊢
      have HQ := Lib.hid hK
      have hq0 : 0 ≤ q := by omega
      have hq1 : q + (ctI x : Nat) ≤ 4611686018427387904 := by omega
      clear hK hc1 hc2 hb hk
      simp only [show kInt.sz = 1 from rfl, Nat.mul_one] at hx
      obtain ⟨cs, hl, hcs⟩ := hx
      obtain rfl := hcs
      have q0 := hl.c0
      simp only [mkI] at q0
      clear hl
      replace hq1 : q + 1 ≤ 4611686018427387904 := by simp only [ctI] at hq1; omega
      go_wp2_with fail
      exact ⟨⟨m + 1, hlt, by go_num, congrArg (Value.int .i64) (by have h1 := HG.out; have h2 := HQ.out; simp only [ctI] at h1; omega), by first | rfl | trivial⟩, by simp [intOf]; omega⟩
    · have hk' : m = xs.length := by omega
      subst hk'
      rw [List.take_length]
      clear h
      go_wp2_with fail
      go_ret
      exact ⟨rfl, rfl⟩

set_option maxRecDepth 100000 in
set_option maxHeartbeats 2000000 in
theorem heldBoolS_c (xs : List Bool) (A : Option Addr) (c : Nat) (k : Int) (w : World) (h : RdS kBool w A c (mkL mkB ctB k xs)) (hk : 0 ≤ k) (hb : k + (ctL ctB xs : Nat) ≤ 4611686018427387904) :
    Calls Try.prog 156 #[.slice A xs.length c, .int .i64 k] w fun e' w' => e' = .returned (.int .i64 (k + (ctL ctB xs : Nat))) ∧ w' = w := by
  have hlen := h.le63
  rw [mkL_length] at hlen
  go_enter Try.func156, Try.ntmps156
  go_wp2_with fail
  go_loopw [1, 5] (fun q i W => ∃ m : Nat, m ≤ xs.length ∧ i = .int .i64 m ∧ q = .int .i64 (k + (ctL ctB (xs.take m) : Nat)) ∧ W = w) (fun _ i _ => xs.length - (intOf i).toNat)
  case atStart => exact ⟨0, Nat.zero_le _, rfl, by simp [ctL], rfl⟩
  case round =>
    obtain ⟨m, hm, rfl, rfl, rfl⟩ := hrel
    by_cases hlt : m < xs.length
    · have hlt' : (m : Int) < (xs.length : Int) := by omega
      have hc1 := ctL_take ctB xs m hlt
      have hc2 := ctL_le ctB xs (m + 1)
      obtain ⟨a, ea, hx⟩ := h.at_ (k := m) (by rw [mkL_length]; exact hlt)
      subst ea
      rw [mkL_get _ _ _ _ _ hlt] at hx
      clear h
      generalize xs[m] = x at hx hc1
      rw [hc1] at hc2
      have HG := Lib.hid hc1
      generalize hK : k + (ctL ctB (xs.take m) : Int) = q at hx ⊢
      have HQ := Lib.hid hK
      have hq0 : 0 ≤ q := by omega
      have hq1 : q + (ctB x : Nat) ≤ 4611686018427387904 := by omega
      clear hK hc1 hc2 hb hk
      simp only [show kBool.sz = 1 from rfl, Nat.mul_one] at hx
      obtain ⟨cs, hl, hcs⟩ := hx
      obtain rfl := hcs
      have q0 := hl.c0
      simp only [mkB] at q0
      clear hl
      replace hq1 : q + 1 ≤ 4611686018427387904 := by simp only [ctB] at hq1; omega
      go_wp2_with fail
      exact ⟨⟨m + 1, hlt, by go_num, congrArg (Value.int .i64) (by have h1 := HG.out; have h2 := HQ.out; simp only [ctB] at h1; omega), by first | rfl | trivial⟩, by simp [intOf]; omega⟩
    · have hk' : m = xs.length := by omega
      subst hk'
      rw [List.take_length]
      clear h
      go_wp2_with fail
      go_ret
      exact ⟨rfl, rfl⟩

set_option maxRecDepth 100000 in
set_option maxHeartbeats 2000000 in
theorem heldEntryS_c (xs : List SEntry) (A : Option Addr) (c : Nat) (k : Int) (w : World) (h : RdS kEntry w A c (mkL mkEntry ctEntry k xs)) (hk : 0 ≤ k) (hb : k + (ctL ctEntry xs : Nat) ≤ 4611686018427387904) :
    Calls Try.prog 155 #[.slice A xs.length c, .int .i64 k] w fun e' w' => e' = .returned (.int .i64 (k + (ctL ctEntry xs : Nat))) ∧ w' = w := by
  have hlen := h.le63
  rw [mkL_length] at hlen
  go_enter Try.func155, Try.ntmps155
  go_wp2_with fail
  go_loopw [1, 5] (fun q i W => ∃ m : Nat, m ≤ xs.length ∧ i = .int .i64 m ∧ q = .int .i64 (k + (ctL ctEntry (xs.take m) : Nat)) ∧ W = w) (fun _ i _ => xs.length - (intOf i).toNat)
  case atStart => exact ⟨0, Nat.zero_le _, rfl, by simp [ctL], rfl⟩
  case round =>
    obtain ⟨m, hm, rfl, rfl, rfl⟩ := hrel
    by_cases hlt : m < xs.length
    · have hlt' : (m : Int) < (xs.length : Int) := by omega
      have hc1 := ctL_take ctEntry xs m hlt
      have hc2 := ctL_le ctEntry xs (m + 1)
      obtain ⟨a, ea, hx⟩ := h.at_ (k := m) (by rw [mkL_length]; exact hlt)
      subst ea
      rw [mkL_get _ _ _ _ _ hlt] at hx
      clear h
      generalize xs[m] = x at hx hc1
      rw [hc1] at hc2
      have HG := Lib.hid hc1
      generalize hK : k + (ctL ctEntry (xs.take m) : Int) = q at hx ⊢
      have HQ := Lib.hid hK
      have hq0 : 0 ≤ q := by omega
      have hq1 : q + (ctEntry x : Nat) ≤ 4611686018427387904 := by omega
      clear hK hc1 hc2 hb hk
      replace hq1 : q + 1 + 1 + 1 + 1 + 1 + 1 ≤ 4611686018427387904 := by simp only [ctEntry] at hq1; omega
      simp only [show kEntry.sz = 6 from rfl] at hx
      have hq := atEntry hx
      simp only [mkEntry] at hq
      obtain ⟨q0, q1, q2, q3, q4, q5⟩ := hq
      clear hx
      go_wp2_with fail
      exact ⟨⟨m + 1, hlt, by go_num, congrArg (Value.int .i64) (by have h1 := HG.out; have h2 := HQ.out; simp only [ctEntry] at h1; omega), by first | rfl | trivial⟩, by simp [intOf]; omega⟩
    · have hk' : m = xs.length := by omega
      subst hk'
      rw [List.take_length]
      clear h
      go_wp2_with fail
      go_ret
      exact ⟨rfl, rfl⟩

set_option maxRecDepth 100000 in
set_option maxHeartbeats 2000000 in
theorem heldDoerS_c (xs : List SDoer) (A : Option Addr) (c : Nat) (k : Int) (w : World) (h : RdS kDoer w A c (mkL mkDoer ctDoer k xs)) (hk : 0 ≤ k) (hb : k + (ctL ctDoer xs : Nat) ≤ 4611686018427387904) :
    Calls Try.prog 157 #[.slice A xs.length c, .int .i64 k] w fun e' w' => e' = .returned (.int .i64 (k + (ctL ctDoer xs : Nat))) ∧ w' = w := by
  have hlen := h.le63
  rw [mkL_length] at hlen
  go_enter Try.func157, Try.ntmps157
  go_wp2_with fail
  go_loopw [1, 5] (fun q i W => ∃ m : Nat, m ≤ xs.length ∧ i = .int .i64 m ∧ q = .int .i64 (k + (ctL ctDoer (xs.take m) : Nat)) ∧ W = w) (fun _ i _ => xs.length - (intOf i).toNat)
  case atStart => exact ⟨0, Nat.zero_le _, rfl, by simp [ctL], rfl⟩
  case round =>
    obtain ⟨m, hm, rfl, rfl, rfl⟩ := hrel
    by_cases hlt : m < xs.length
    · have hlt' : (m : Int) < (xs.length : Int) := by omega
      have hc1 := ctL_take ctDoer xs m hlt
      have hc2 := ctL_le ctDoer xs (m + 1)
      obtain ⟨a, ea, hx⟩ := h.at_ (k := m) (by rw [mkL_length]; exact hlt)
      subst ea
      rw [mkL_get _ _ _ _ _ hlt] at hx
      clear h
      generalize xs[m] = x at hx hc1
      rw [hc1] at hc2
      have HG := Lib.hid hc1
      generalize hK : k + (ctL ctDoer (xs.take m) : Int) = q at hx ⊢
      have HQ := Lib.hid hK
      have hq0 : 0 ≤ q := by omega
      have hq1 : q + (ctDoer x : Nat) ≤ 4611686018427387904 := by omega
      clear hK hc1 hc2 hb hk
      replace hq1 : q + 1 + 1 + ↑(ctL ctEntry x.Log) + 1 ≤ 4611686018427387904 := by simp only [ctDoer] at hq1; omega
      have n2 : 0 ≤ q + 1 + 1 + ↑(ctL ctEntry x.Log) := by omega
      simp only [show kDoer.sz = 4 from rfl] at hx
      obtain ⟨A2, c2, hq⟩ := atDoer hx
      simp only [mkDoer, mkL_length] at hq
      obtain ⟨q0, q1, q2, q3, h2⟩ := hq
      clear hx
      go_wp2_with (first | (go_at_call 155; (with_reducible refine (heldEntryS_c x.Log A2 c2 _ _ h2 (by omega) (by omega)).mono ?_); rintro e w' ⟨rfl, rfl⟩))
      exact ⟨⟨m + 1, hlt, by go_num, congrArg (Value.int .i64) (by have h1 := HG.out; have h2 := HQ.out; simp only [ctDoer] at h1; omega), by first | rfl | trivial⟩, by simp [intOf]; omega⟩
    · have hk' : m = xs.length := by omega
      subst hk'
      rw [List.take_length]
      clear h
      go_wp2_with fail
      go_ret
      exact ⟨rfl, rfl⟩

set_option maxRecDepth 100000 in
set_option maxHeartbeats 2000000 in
theorem heldMailS_c (xs : List SMail) (A : Option Addr) (c : Nat) (k : Int) (w : World) (h : RdS kMail w A c (mkL mkMail ctMail k xs)) (hk : 0 ≤ k) (hb : k + (ctL ctMail xs : Nat) ≤ 4611686018427387904) :
    Calls Try.prog 109 #[.slice A xs.length c, .int .i64 k] w fun e' w' => e' = .returned (.int .i64 (k + (ctL ctMail xs : Nat))) ∧ w' = w := by
  have hlen := h.le63
  rw [mkL_length] at hlen
  go_enter Try.func109, Try.ntmps109
  go_wp2_with fail
  go_loopw [1, 5] (fun q i W => ∃ m : Nat, m ≤ xs.length ∧ i = .int .i64 m ∧ q = .int .i64 (k + (ctL ctMail (xs.take m) : Nat)) ∧ W = w) (fun _ i _ => xs.length - (intOf i).toNat)
  case atStart => exact ⟨0, Nat.zero_le _, rfl, by simp [ctL], rfl⟩
  case round =>
    obtain ⟨m, hm, rfl, rfl, rfl⟩ := hrel
    by_cases hlt : m < xs.length
    · have hlt' : (m : Int) < (xs.length : Int) := by omega
      have hc1 := ctL_take ctMail xs m hlt
      have hc2 := ctL_le ctMail xs (m + 1)
      obtain ⟨a, ea, hx⟩ := h.at_ (k := m) (by rw [mkL_length]; exact hlt)
      subst ea
      rw [mkL_get _ _ _ _ _ hlt] at hx
      clear h
      generalize xs[m] = x at hx hc1
      rw [hc1] at hc2
      have HG := Lib.hid hc1
      generalize hK : k + (ctL ctMail (xs.take m) : Int) = q at hx ⊢
      have HQ := Lib.hid hK
      have hq0 : 0 ≤ q := by omega
      have hq1 : q + (ctMail x : Nat) ≤ 4611686018427387904 := by omega
      clear hK hc1 hc2 hb hk
      replace hq1 : q + 1 + 1 + 1 + 1 + 1 + 1 + 1 + 1 + 1 + 1 + 1 + 1 + 1 + ↑(ctL ctEntry x.Log) + 1 ≤ 4611686018427387904 := by simp only [ctMail] at hq1; omega
      have n13 : 0 ≤ q + 1 + 1 + 1 + 1 + 1 + 1 + 1 + 1 + 1 + 1 + 1 + 1 + 1 + ↑(ctL ctEntry x.Log) := by omega
      simp only [show kMail.sz = 15 from rfl] at hx
      obtain ⟨A13, c13, hq⟩ := atMail hx
      simp only [mkMail, mkL_length] at hq
      obtain ⟨q0, q1, q2, q3, q4, q5, q6, q7, q8, q9, q10, q11, q12, q13, q14, h13⟩ := hq
      clear hx
      go_wp2_with (first | (go_at_call 155; (with_reducible refine (heldEntryS_c x.Log A13 c13 _ _ h13 (by omega) (by omega)).mono ?_); rintro e w' ⟨rfl, rfl⟩))
      exact ⟨⟨m + 1, hlt, by go_num, congrArg (Value.int .i64) (by have h1 := HG.out; have h2 := HQ.out; simp only [ctMail] at h1; omega), by first | rfl | trivial⟩, by simp [intOf]; omega⟩
    · have hk' : m = xs.length := by omega
      subst hk'
      rw [List.take_length]
      clear h
      go_wp2_with fail
      go_ret
      exact ⟨rfl, rfl⟩

set_option maxRecDepth 100000 in
set_option maxHeartbeats 2000000 in
theorem markReplica_c (x : SReplica) (A5 : Option Addr) (c5 : Nat) (A7 : Option Addr) (c7 : Nat) (A8 : Option Addr) (c8 : Nat) (A9 : Option Addr) (c9 : Nat) (k : Int) (B : Nat) (f5 : List Nat) (f7 : List Nat) (f8 : List Nat) (f9 : List Nat) (w : World) (h5 : OwnS kEntry 135 B w f5 (.slice A5 x.Log.length c5) x.Log) (h7 : OwnS kInt 2 B w f7 (.slice A7 x.Oks.length c7) x.Oks) (h8 : OwnS kBool 4 B w f8 (.slice A8 x.Asks.length c8) x.Asks) (h9 : OwnS kDoer 158 B w f9 (.slice A9 x.Doers.length c9) x.Doers) (nd : ((f5 ++ (f7 ++ (f8 ++ f9))) : List Nat).Nodup) (hk : 0 ≤ k) (hb : k + ↑(ctL ctEntry x.Log) + ↑(ctL ctI x.Oks) + ↑(ctL ctB x.Asks) + ↑(ctL ctDoer x.Doers) ≤ 4611686018427387904) :
    Calls Try.prog 47 #[.agg #[.int .i64 x.Id, .int .i64 x.Size, .int .i64 x.View, .bool x.Normal, .int .i64 x.Last, .slice A5 x.Log.length c5, .int .i64 x.Commit, .slice A7 x.Oks.length c7, .slice A8 x.Asks.length c8, .slice A9 x.Doers.length c9], .int .i64 k] w fun e' w' => e' = .returned (.int .i64 (k + ↑(ctL ctEntry x.Log) + ↑(ctL ctI x.Oks) + ↑(ctL ctB x.Asks) + ↑(ctL ctDoer x.Doers))) ∧ OwnS kEntry 135 B w' f5 (.slice A5 x.Log.length c5) (mkL mkEntry ctEntry (k) x.Log) ∧ OwnS kInt 2 B w' f7 (.slice A7 x.Oks.length c7) (mkL mkI ctI (k + ↑(ctL ctEntry x.Log)) x.Oks) ∧ OwnS kBool 4 B w' f8 (.slice A8 x.Asks.length c8) (mkL mkB ctB (k + ↑(ctL ctEntry x.Log) + ↑(ctL ctI x.Oks)) x.Asks) ∧ OwnS kDoer 158 B w' f9 (.slice A9 x.Doers.length c9) (mkL mkDoer ctDoer (k + ↑(ctL ctEntry x.Log) + ↑(ctL ctI x.Oks) + ↑(ctL ctB x.Asks)) x.Doers) ∧ Turn (f5 ++ (f7 ++ (f8 ++ f9))) w w' := by
  have n5 : 0 ≤ k + ↑(ctL ctEntry x.Log) := by omega
  have n7 : 0 ≤ k + ↑(ctL ctEntry x.Log) + ↑(ctL ctI x.Oks) := by omega
  have n8 : 0 ≤ k + ↑(ctL ctEntry x.Log) + ↑(ctL ctI x.Oks) + ↑(ctL ctB x.Asks) := by omega
  have n9 : 0 ≤ k + ↑(ctL ctEntry x.Log) + ↑(ctL ctI x.Oks) + ↑(ctL ctB x.Asks) + ↑(ctL ctDoer x.Doers) := by omega
  have i5 : ∀ b ∈ f5, b < w.heap.size := fun b hb => (h5.in b hb).2
  have i7 : ∀ b ∈ f7, b < w.heap.size := fun b hb => (h7.in b hb).2
  have i8 : ∀ b ∈ f8, b < w.heap.size := fun b hb => (h8.in b hb).2
  have i9 : ∀ b ∈ f9, b < w.heap.size := fun b hb => (h9.in b hb).2
  simp only [List.nodup_append, List.mem_append] at nd
  have hx0 : Blk (w.alloc (.cells #[.int .i64 x.Id, .int .i64 x.Size, .int .i64 x.View, .bool x.Normal, .int .i64 x.Last, .slice A5 x.Log.length c5, .int .i64 x.Commit, .slice A7 x.Oks.length c7, .slice A8 x.Asks.length c8, .slice A9 x.Doers.length c9] 59)) w.heap.size 59 [.int .i64 x.Id, .int .i64 x.Size, .int .i64 x.View, .bool x.Normal, .int .i64 x.Last, .slice A5 x.Log.length c5, .int .i64 x.Commit, .slice A7 x.Oks.length c7, .slice A8 x.Asks.length c8, .slice A9 x.Doers.length c9] := blk_alloc w [.int .i64 x.Id, .int .i64 x.Size, .int .i64 x.View, .bool x.Normal, .int .i64 x.Last, .slice A5 x.Log.length c5, .int .i64 x.Commit, .slice A7 x.Oks.length c7, .slice A8 x.Asks.length c8, .slice A9 x.Doers.length c9] _
  go_enter Try.func47, Try.ntmps47
  have h5 := OwnS.keep h5 (w' := (w.alloc (.cells #[.int .i64 x.Id, .int .i64 x.Size, .int .i64 x.View, .bool x.Normal, .int .i64 x.Last, .slice A5 x.Log.length c5, .int .i64 x.Commit, .slice A7 x.Oks.length c7, .slice A8 x.Asks.length c8, .slice A9 x.Doers.length c9] 59))) (fun b hb => Below.heap_alloc _ _ _ (i5 b hb))
  have h7 := OwnS.keep h7 (w' := (w.alloc (.cells #[.int .i64 x.Id, .int .i64 x.Size, .int .i64 x.View, .bool x.Normal, .int .i64 x.Last, .slice A5 x.Log.length c5, .int .i64 x.Commit, .slice A7 x.Oks.length c7, .slice A8 x.Asks.length c8, .slice A9 x.Doers.length c9] 59))) (fun b hb => Below.heap_alloc _ _ _ (i7 b hb))
  have h8 := OwnS.keep h8 (w' := (w.alloc (.cells #[.int .i64 x.Id, .int .i64 x.Size, .int .i64 x.View, .bool x.Normal, .int .i64 x.Last, .slice A5 x.Log.length c5, .int .i64 x.Commit, .slice A7 x.Oks.length c7, .slice A8 x.Asks.length c8, .slice A9 x.Doers.length c9] 59))) (fun b hb => Below.heap_alloc _ _ _ (i8 b hb))
  have h9 := OwnS.keep h9 (w' := (w.alloc (.cells #[.int .i64 x.Id, .int .i64 x.Size, .int .i64 x.View, .bool x.Normal, .int .i64 x.Last, .slice A5 x.Log.length c5, .int .i64 x.Commit, .slice A7 x.Oks.length c7, .slice A8 x.Asks.length c8, .slice A9 x.Doers.length c9] 59))) (fun b hb => Below.heap_alloc _ _ _ (i9 b hb))
  have ht : Turn (f5 ++ (f7 ++ (f8 ++ f9))) w (w.alloc (.cells #[.int .i64 x.Id, .int .i64 x.Size, .int .i64 x.View, .bool x.Normal, .int .i64 x.Last, .slice A5 x.Log.length c5, .int .i64 x.Commit, .slice A7 x.Oks.length c7, .slice A8 x.Asks.length c8, .slice A9 x.Doers.length c9] 59)) := (Turn.refl _ _).alloc _
  go_wp2_with fail
  refine Calls.mono (markEntryS_c x.Log A5 c5 _ B f5 _ h5 (by first | exact nd | simp_all) (by omega) (by omega)) ?_
  rintro e0 w1 ⟨rfl, o5, t0⟩
  have p0_7 := OwnS.turn h7 t0 (by intro b hb hm; (try simp only [List.mem_append] at hm); grind)
  have p0_8 := OwnS.turn h8 t0 (by intro b hb hm; (try simp only [List.mem_append] at hm); grind)
  have p0_9 := OwnS.turn h9 t0 (by intro b hb hm; (try simp only [List.mem_append] at hm); grind)
  have ht := ht.trans (t0.mono (fq := (f5 ++ (f7 ++ (f8 ++ f9)))) (by intro b hb; simp only [List.mem_append] at hb ⊢; grind))
  have hx1 := Blk.keep hx0 (t0.block _ hx0.lt (by intro hm; (try simp only [List.mem_append] at hm); grind))
  have q0_7 := hx1.cell (j := 7) rfl
  go_wp2_with fail
  refine Calls.mono (markInt64S_c x.Oks A7 c7 _ B f7 _ p0_7 (by first | exact nd | simp_all) (by omega) (by omega)) ?_
  rintro e1 w2 ⟨rfl, o7, t1⟩
  have p1_5 := OwnS.turn o5 t1 (by intro b hb hm; (try simp only [List.mem_append] at hm); grind)
  have p1_8 := OwnS.turn p0_8 t1 (by intro b hb hm; (try simp only [List.mem_append] at hm); grind)
  have p1_9 := OwnS.turn p0_9 t1 (by intro b hb hm; (try simp only [List.mem_append] at hm); grind)
  have ht := ht.trans (t1.mono (fq := (f5 ++ (f7 ++ (f8 ++ f9)))) (by intro b hb; simp only [List.mem_append] at hb ⊢; grind))
  have hx2 := Blk.keep hx1 (t1.block _ hx1.lt (by intro hm; (try simp only [List.mem_append] at hm); grind))
  have q1_8 := hx2.cell (j := 8) rfl
  go_wp2_with fail
  refine Calls.mono (markBoolS_c x.Asks A8 c8 _ B f8 _ p1_8 (by first | exact nd | simp_all) (by omega) (by omega)) ?_
  rintro e2 w3 ⟨rfl, o8, t2⟩
  have p2_5 := OwnS.turn p1_5 t2 (by intro b hb hm; (try simp only [List.mem_append] at hm); grind)
  have p2_7 := OwnS.turn o7 t2 (by intro b hb hm; (try simp only [List.mem_append] at hm); grind)
  have p2_9 := OwnS.turn p1_9 t2 (by intro b hb hm; (try simp only [List.mem_append] at hm); grind)
  have ht := ht.trans (t2.mono (fq := (f5 ++ (f7 ++ (f8 ++ f9)))) (by intro b hb; simp only [List.mem_append] at hb ⊢; grind))
  have hx3 := Blk.keep hx2 (t2.block _ hx2.lt (by intro hm; (try simp only [List.mem_append] at hm); grind))
  have q2_9 := hx3.cell (j := 9) rfl
  go_wp2_with fail
  refine Calls.mono (markDoerS_c x.Doers A9 c9 _ B f9 _ p2_9 (by first | exact nd | simp_all) (by omega) (by omega)) ?_
  rintro e3 w4 ⟨rfl, o9, t3⟩
  have p3_5 := OwnS.turn p2_5 t3 (by intro b hb hm; (try simp only [List.mem_append] at hm); grind)
  have p3_7 := OwnS.turn p2_7 t3 (by intro b hb hm; (try simp only [List.mem_append] at hm); grind)
  have p3_8 := OwnS.turn o8 t3 (by intro b hb hm; (try simp only [List.mem_append] at hm); grind)
  have ht := ht.trans (t3.mono (fq := (f5 ++ (f7 ++ (f8 ++ f9)))) (by intro b hb; simp only [List.mem_append] at hb ⊢; grind))
  have hx4 := Blk.keep hx3 (t3.block _ hx3.lt (by intro hm; (try simp only [List.mem_append] at hm); grind))
  go_wp2_with fail
  go_ret
  exact ⟨rfl, p3_5, p3_7, p3_8, o9, ht⟩

set_option maxRecDepth 100000 in
set_option maxHeartbeats 2000000 in
theorem heldReplica_c (x : SReplica) (A5 : Option Addr) (c5 : Nat) (A7 : Option Addr) (c7 : Nat) (A8 : Option Addr) (c8 : Nat) (A9 : Option Addr) (c9 : Nat) (k : Int) (w : World) (h5 : RdS kEntry w A5 c5 (mkL mkEntry ctEntry (k) x.Log)) (h7 : RdS kInt w A7 c7 (mkL mkI ctI (k + ↑(ctL ctEntry x.Log)) x.Oks)) (h8 : RdS kBool w A8 c8 (mkL mkB ctB (k + ↑(ctL ctEntry x.Log) + ↑(ctL ctI x.Oks)) x.Asks)) (h9 : RdS kDoer w A9 c9 (mkL mkDoer ctDoer (k + ↑(ctL ctEntry x.Log) + ↑(ctL ctI x.Oks) + ↑(ctL ctB x.Asks)) x.Doers)) (hk : 0 ≤ k) (hb : k + ↑(ctL ctEntry x.Log) + ↑(ctL ctI x.Oks) + ↑(ctL ctB x.Asks) + ↑(ctL ctDoer x.Doers) ≤ 4611686018427387904) :
    Calls Try.prog 108 #[.agg #[.int .i64 x.Id, .int .i64 x.Size, .int .i64 x.View, .bool x.Normal, .int .i64 x.Last, .slice A5 x.Log.length c5, .int .i64 x.Commit, .slice A7 x.Oks.length c7, .slice A8 x.Asks.length c8, .slice A9 x.Doers.length c9], .int .i64 k] w fun e' w' => e' = .returned (.int .i64 (k + ↑(ctL ctEntry x.Log) + ↑(ctL ctI x.Oks) + ↑(ctL ctB x.Asks) + ↑(ctL ctDoer x.Doers))) ∧ Below w.heap.size w w' := by
  have n5 : 0 ≤ k + ↑(ctL ctEntry x.Log) := by omega
  have n7 : 0 ≤ k + ↑(ctL ctEntry x.Log) + ↑(ctL ctI x.Oks) := by omega
  have n8 : 0 ≤ k + ↑(ctL ctEntry x.Log) + ↑(ctL ctI x.Oks) + ↑(ctL ctB x.Asks) := by omega
  have n9 : 0 ≤ k + ↑(ctL ctEntry x.Log) + ↑(ctL ctI x.Oks) + ↑(ctL ctB x.Asks) + ↑(ctL ctDoer x.Doers) := by omega
  have hx0 : Blk (w.alloc (.cells #[.int .i64 x.Id, .int .i64 x.Size, .int .i64 x.View, .bool x.Normal, .int .i64 x.Last, .slice A5 x.Log.length c5, .int .i64 x.Commit, .slice A7 x.Oks.length c7, .slice A8 x.Asks.length c8, .slice A9 x.Doers.length c9] 59)) w.heap.size 59 [.int .i64 x.Id, .int .i64 x.Size, .int .i64 x.View, .bool x.Normal, .int .i64 x.Last, .slice A5 x.Log.length c5, .int .i64 x.Commit, .slice A7 x.Oks.length c7, .slice A8 x.Asks.length c8, .slice A9 x.Doers.length c9] := blk_alloc w [.int .i64 x.Id, .int .i64 x.Size, .int .i64 x.View, .bool x.Normal, .int .i64 x.Last, .slice A5 x.Log.length c5, .int .i64 x.Commit, .slice A7 x.Oks.length c7, .slice A8 x.Asks.length c8, .slice A9 x.Doers.length c9] _
  go_enter Try.func108, Try.ntmps108
  have hb0 : Below w.heap.size w (w.alloc (.cells #[.int .i64 x.Id, .int .i64 x.Size, .int .i64 x.View, .bool x.Normal, .int .i64 x.Last, .slice A5 x.Log.length c5, .int .i64 x.Commit, .slice A7 x.Oks.length c7, .slice A8 x.Asks.length c8, .slice A9 x.Doers.length c9] 59)) := below_alloc (Below.refl _ _) _
  go_wp2_with fail
  refine Calls.mono (heldEntryS_c x.Log A5 c5 _ _ (h5.below (by repeat (first | (with_reducible assumption) | (with_reducible exact Below.refl _ _) | (with_reducible apply below_alloc) | (with_reducible apply below_drewN) | (with_reducible apply Below.drew) | (with_reducible refine below_set ?_ (by dsimp only; omega) _) | (with_reducible refine below_trans ?_ (by assumption))))) (by omega) (by omega)) ?_
  rintro e0 w1 ⟨rfl, rfl⟩
  have q0_7 := hx0.cell (j := 7) rfl
  go_wp2_with fail
  refine Calls.mono (heldInt64S_c x.Oks A7 c7 _ _ (h7.below (by repeat (first | (with_reducible assumption) | (with_reducible exact Below.refl _ _) | (with_reducible apply below_alloc) | (with_reducible apply below_drewN) | (with_reducible apply Below.drew) | (with_reducible refine below_set ?_ (by dsimp only; omega) _) | (with_reducible refine below_trans ?_ (by assumption))))) (by omega) (by omega)) ?_
  rintro e1 w2 ⟨rfl, rfl⟩
  have q1_8 := hx0.cell (j := 8) rfl
  go_wp2_with fail
  refine Calls.mono (heldBoolS_c x.Asks A8 c8 _ _ (h8.below (by repeat (first | (with_reducible assumption) | (with_reducible exact Below.refl _ _) | (with_reducible apply below_alloc) | (with_reducible apply below_drewN) | (with_reducible apply Below.drew) | (with_reducible refine below_set ?_ (by dsimp only; omega) _) | (with_reducible refine below_trans ?_ (by assumption))))) (by omega) (by omega)) ?_
  rintro e2 w3 ⟨rfl, rfl⟩
  have q2_9 := hx0.cell (j := 9) rfl
  go_wp2_with fail
  refine Calls.mono (heldDoerS_c x.Doers A9 c9 _ _ (h9.below (by repeat (first | (with_reducible assumption) | (with_reducible exact Below.refl _ _) | (with_reducible apply below_alloc) | (with_reducible apply below_drewN) | (with_reducible apply Below.drew) | (with_reducible refine below_set ?_ (by dsimp only; omega) _) | (with_reducible refine below_trans ?_ (by assumption))))) (by omega) (by omega)) ?_
  rintro e3 w4 ⟨rfl, rfl⟩
  go_wp2_with fail
  go_ret
  exact ⟨rfl, by repeat (first | (with_reducible assumption) | (with_reducible exact Below.refl _ _) | (with_reducible apply below_alloc) | (with_reducible apply below_drewN) | (with_reducible apply Below.drew) | (with_reducible refine below_set ?_ (by dsimp only; omega) _) | (with_reducible refine below_trans ?_ (by assumption)))⟩

set_option maxRecDepth 100000 in
set_option maxHeartbeats 2000000 in
theorem markReplicaResult_c (x : SReplicaResult) (A6 : Option Addr) (c6 : Nat) (A8 : Option Addr) (c8 : Nat) (A9 : Option Addr) (c9 : Nat) (A10 : Option Addr) (c10 : Nat) (A11 : Option Addr) (c11 : Nat) (k : Int) (B : Nat) (f6 : List Nat) (f8 : List Nat) (f9 : List Nat) (f10 : List Nat) (f11 : List Nat) (w : World) (h6 : OwnS kEntry 135 B w f6 (.slice A6 x.Replica.Log.length c6) x.Replica.Log) (h8 : OwnS kInt 2 B w f8 (.slice A8 x.Replica.Oks.length c8) x.Replica.Oks) (h9 : OwnS kBool 4 B w f9 (.slice A9 x.Replica.Asks.length c9) x.Replica.Asks) (h10 : OwnS kDoer 158 B w f10 (.slice A10 x.Replica.Doers.length c10) x.Replica.Doers) (h11 : OwnS kMail 137 B w f11 (.slice A11 x.Send.length c11) x.Send) (nd : ((f6 ++ (f8 ++ (f9 ++ (f10 ++ f11)))) : List Nat).Nodup) (hk : 0 ≤ k) (hb : k + ↑(ctL ctEntry x.Replica.Log) + ↑(ctL ctI x.Replica.Oks) + ↑(ctL ctB x.Replica.Asks) + ↑(ctL ctDoer x.Replica.Doers) + ↑(ctL ctMail x.Send) ≤ 4611686018427387904) :
    Calls Try.prog 48 #[.agg #[.int .i64 x.Code, .int .i64 x.Replica.Id, .int .i64 x.Replica.Size, .int .i64 x.Replica.View, .bool x.Replica.Normal, .int .i64 x.Replica.Last, .slice A6 x.Replica.Log.length c6, .int .i64 x.Replica.Commit, .slice A8 x.Replica.Oks.length c8, .slice A9 x.Replica.Asks.length c9, .slice A10 x.Replica.Doers.length c10, .slice A11 x.Send.length c11], .int .i64 k] w fun e' w' => e' = .returned (.int .i64 (k + ↑(ctL ctEntry x.Replica.Log) + ↑(ctL ctI x.Replica.Oks) + ↑(ctL ctB x.Replica.Asks) + ↑(ctL ctDoer x.Replica.Doers) + ↑(ctL ctMail x.Send))) ∧ OwnS kEntry 135 B w' f6 (.slice A6 x.Replica.Log.length c6) (mkL mkEntry ctEntry (k) x.Replica.Log) ∧ OwnS kInt 2 B w' f8 (.slice A8 x.Replica.Oks.length c8) (mkL mkI ctI (k + ↑(ctL ctEntry x.Replica.Log)) x.Replica.Oks) ∧ OwnS kBool 4 B w' f9 (.slice A9 x.Replica.Asks.length c9) (mkL mkB ctB (k + ↑(ctL ctEntry x.Replica.Log) + ↑(ctL ctI x.Replica.Oks)) x.Replica.Asks) ∧ OwnS kDoer 158 B w' f10 (.slice A10 x.Replica.Doers.length c10) (mkL mkDoer ctDoer (k + ↑(ctL ctEntry x.Replica.Log) + ↑(ctL ctI x.Replica.Oks) + ↑(ctL ctB x.Replica.Asks)) x.Replica.Doers) ∧ OwnS kMail 137 B w' f11 (.slice A11 x.Send.length c11) (mkL mkMail ctMail (k + ↑(ctL ctEntry x.Replica.Log) + ↑(ctL ctI x.Replica.Oks) + ↑(ctL ctB x.Replica.Asks) + ↑(ctL ctDoer x.Replica.Doers)) x.Send) ∧ Turn (f6 ++ (f8 ++ (f9 ++ (f10 ++ f11)))) w w' := by
  have n6 : 0 ≤ k + ↑(ctL ctEntry x.Replica.Log) := by omega
  have n8 : 0 ≤ k + ↑(ctL ctEntry x.Replica.Log) + ↑(ctL ctI x.Replica.Oks) := by omega
  have n9 : 0 ≤ k + ↑(ctL ctEntry x.Replica.Log) + ↑(ctL ctI x.Replica.Oks) + ↑(ctL ctB x.Replica.Asks) := by omega
  have n10 : 0 ≤ k + ↑(ctL ctEntry x.Replica.Log) + ↑(ctL ctI x.Replica.Oks) + ↑(ctL ctB x.Replica.Asks) + ↑(ctL ctDoer x.Replica.Doers) := by omega
  have n11 : 0 ≤ k + ↑(ctL ctEntry x.Replica.Log) + ↑(ctL ctI x.Replica.Oks) + ↑(ctL ctB x.Replica.Asks) + ↑(ctL ctDoer x.Replica.Doers) + ↑(ctL ctMail x.Send) := by omega
  have i6 : ∀ b ∈ f6, b < w.heap.size := fun b hb => (h6.in b hb).2
  have i8 : ∀ b ∈ f8, b < w.heap.size := fun b hb => (h8.in b hb).2
  have i9 : ∀ b ∈ f9, b < w.heap.size := fun b hb => (h9.in b hb).2
  have i10 : ∀ b ∈ f10, b < w.heap.size := fun b hb => (h10.in b hb).2
  have i11 : ∀ b ∈ f11, b < w.heap.size := fun b hb => (h11.in b hb).2
  simp only [List.nodup_append, List.mem_append] at nd
  have hx0 : Blk (w.alloc (.cells #[.int .i64 x.Code, .int .i64 x.Replica.Id, .int .i64 x.Replica.Size, .int .i64 x.Replica.View, .bool x.Replica.Normal, .int .i64 x.Replica.Last, .slice A6 x.Replica.Log.length c6, .int .i64 x.Replica.Commit, .slice A8 x.Replica.Oks.length c8, .slice A9 x.Replica.Asks.length c9, .slice A10 x.Replica.Doers.length c10, .slice A11 x.Send.length c11] 61)) w.heap.size 61 [.int .i64 x.Code, .int .i64 x.Replica.Id, .int .i64 x.Replica.Size, .int .i64 x.Replica.View, .bool x.Replica.Normal, .int .i64 x.Replica.Last, .slice A6 x.Replica.Log.length c6, .int .i64 x.Replica.Commit, .slice A8 x.Replica.Oks.length c8, .slice A9 x.Replica.Asks.length c9, .slice A10 x.Replica.Doers.length c10, .slice A11 x.Send.length c11] := blk_alloc w [.int .i64 x.Code, .int .i64 x.Replica.Id, .int .i64 x.Replica.Size, .int .i64 x.Replica.View, .bool x.Replica.Normal, .int .i64 x.Replica.Last, .slice A6 x.Replica.Log.length c6, .int .i64 x.Replica.Commit, .slice A8 x.Replica.Oks.length c8, .slice A9 x.Replica.Asks.length c9, .slice A10 x.Replica.Doers.length c10, .slice A11 x.Send.length c11] _
  go_enter Try.func48, Try.ntmps48
  have h6 := OwnS.keep h6 (w' := (w.alloc (.cells #[.int .i64 x.Code, .int .i64 x.Replica.Id, .int .i64 x.Replica.Size, .int .i64 x.Replica.View, .bool x.Replica.Normal, .int .i64 x.Replica.Last, .slice A6 x.Replica.Log.length c6, .int .i64 x.Replica.Commit, .slice A8 x.Replica.Oks.length c8, .slice A9 x.Replica.Asks.length c9, .slice A10 x.Replica.Doers.length c10, .slice A11 x.Send.length c11] 61))) (fun b hb => Below.heap_alloc _ _ _ (i6 b hb))
  have h8 := OwnS.keep h8 (w' := (w.alloc (.cells #[.int .i64 x.Code, .int .i64 x.Replica.Id, .int .i64 x.Replica.Size, .int .i64 x.Replica.View, .bool x.Replica.Normal, .int .i64 x.Replica.Last, .slice A6 x.Replica.Log.length c6, .int .i64 x.Replica.Commit, .slice A8 x.Replica.Oks.length c8, .slice A9 x.Replica.Asks.length c9, .slice A10 x.Replica.Doers.length c10, .slice A11 x.Send.length c11] 61))) (fun b hb => Below.heap_alloc _ _ _ (i8 b hb))
  have h9 := OwnS.keep h9 (w' := (w.alloc (.cells #[.int .i64 x.Code, .int .i64 x.Replica.Id, .int .i64 x.Replica.Size, .int .i64 x.Replica.View, .bool x.Replica.Normal, .int .i64 x.Replica.Last, .slice A6 x.Replica.Log.length c6, .int .i64 x.Replica.Commit, .slice A8 x.Replica.Oks.length c8, .slice A9 x.Replica.Asks.length c9, .slice A10 x.Replica.Doers.length c10, .slice A11 x.Send.length c11] 61))) (fun b hb => Below.heap_alloc _ _ _ (i9 b hb))
  have h10 := OwnS.keep h10 (w' := (w.alloc (.cells #[.int .i64 x.Code, .int .i64 x.Replica.Id, .int .i64 x.Replica.Size, .int .i64 x.Replica.View, .bool x.Replica.Normal, .int .i64 x.Replica.Last, .slice A6 x.Replica.Log.length c6, .int .i64 x.Replica.Commit, .slice A8 x.Replica.Oks.length c8, .slice A9 x.Replica.Asks.length c9, .slice A10 x.Replica.Doers.length c10, .slice A11 x.Send.length c11] 61))) (fun b hb => Below.heap_alloc _ _ _ (i10 b hb))
  have h11 := OwnS.keep h11 (w' := (w.alloc (.cells #[.int .i64 x.Code, .int .i64 x.Replica.Id, .int .i64 x.Replica.Size, .int .i64 x.Replica.View, .bool x.Replica.Normal, .int .i64 x.Replica.Last, .slice A6 x.Replica.Log.length c6, .int .i64 x.Replica.Commit, .slice A8 x.Replica.Oks.length c8, .slice A9 x.Replica.Asks.length c9, .slice A10 x.Replica.Doers.length c10, .slice A11 x.Send.length c11] 61))) (fun b hb => Below.heap_alloc _ _ _ (i11 b hb))
  have ht : Turn (f6 ++ (f8 ++ (f9 ++ (f10 ++ f11)))) w (w.alloc (.cells #[.int .i64 x.Code, .int .i64 x.Replica.Id, .int .i64 x.Replica.Size, .int .i64 x.Replica.View, .bool x.Replica.Normal, .int .i64 x.Replica.Last, .slice A6 x.Replica.Log.length c6, .int .i64 x.Replica.Commit, .slice A8 x.Replica.Oks.length c8, .slice A9 x.Replica.Asks.length c9, .slice A10 x.Replica.Doers.length c10, .slice A11 x.Send.length c11] 61)) := (Turn.refl _ _).alloc _
  go_wp2_with fail
  refine Calls.mono (markReplica_c x.Replica A6 c6 A8 c8 A9 c9 A10 c10 _ B f6 f8 f9 f10 _ h6 h8 h9 h10 (by first | exact nd | (simp only [List.nodup_append, List.mem_append]; grind)) (by omega) (by omega)) ?_
  rintro e0 w1 ⟨rfl, o6, o8, o9, o10, t0⟩
  have p0_11 := OwnS.turn h11 t0 (by intro b hb hm; (try simp only [List.mem_append] at hm); grind)
  have ht := ht.trans (t0.mono (fq := (f6 ++ (f8 ++ (f9 ++ (f10 ++ f11))))) (by intro b hb; simp only [List.mem_append] at hb ⊢; grind))
  have hx1 := Blk.keep hx0 (t0.block _ hx0.lt (by intro hm; (try simp only [List.mem_append] at hm); grind))
  have q0_11 := hx1.cell (j := 11) rfl
  go_wp2_with fail
  refine Calls.mono (markMailS_c x.Send A11 c11 _ B f11 _ p0_11 (by first | exact nd | simp_all) (by omega) (by omega)) ?_
  rintro e1 w2 ⟨rfl, o11, t1⟩
  have p1_6 := OwnS.turn o6 t1 (by intro b hb hm; (try simp only [List.mem_append] at hm); grind)
  have p1_8 := OwnS.turn o8 t1 (by intro b hb hm; (try simp only [List.mem_append] at hm); grind)
  have p1_9 := OwnS.turn o9 t1 (by intro b hb hm; (try simp only [List.mem_append] at hm); grind)
  have p1_10 := OwnS.turn o10 t1 (by intro b hb hm; (try simp only [List.mem_append] at hm); grind)
  have ht := ht.trans (t1.mono (fq := (f6 ++ (f8 ++ (f9 ++ (f10 ++ f11))))) (by intro b hb; simp only [List.mem_append] at hb ⊢; grind))
  have hx2 := Blk.keep hx1 (t1.block _ hx1.lt (by intro hm; (try simp only [List.mem_append] at hm); grind))
  go_wp2_with fail
  go_ret
  exact ⟨rfl, p1_6, p1_8, p1_9, p1_10, o11, ht⟩

set_option maxRecDepth 100000 in
set_option maxHeartbeats 2000000 in
theorem heldReplicaResult_c (x : SReplicaResult) (A6 : Option Addr) (c6 : Nat) (A8 : Option Addr) (c8 : Nat) (A9 : Option Addr) (c9 : Nat) (A10 : Option Addr) (c10 : Nat) (A11 : Option Addr) (c11 : Nat) (k : Int) (w : World) (h6 : RdS kEntry w A6 c6 (mkL mkEntry ctEntry (k) x.Replica.Log)) (h8 : RdS kInt w A8 c8 (mkL mkI ctI (k + ↑(ctL ctEntry x.Replica.Log)) x.Replica.Oks)) (h9 : RdS kBool w A9 c9 (mkL mkB ctB (k + ↑(ctL ctEntry x.Replica.Log) + ↑(ctL ctI x.Replica.Oks)) x.Replica.Asks)) (h10 : RdS kDoer w A10 c10 (mkL mkDoer ctDoer (k + ↑(ctL ctEntry x.Replica.Log) + ↑(ctL ctI x.Replica.Oks) + ↑(ctL ctB x.Replica.Asks)) x.Replica.Doers)) (h11 : RdS kMail w A11 c11 (mkL mkMail ctMail (k + ↑(ctL ctEntry x.Replica.Log) + ↑(ctL ctI x.Replica.Oks) + ↑(ctL ctB x.Replica.Asks) + ↑(ctL ctDoer x.Replica.Doers)) x.Send)) (hk : 0 ≤ k) (hb : k + ↑(ctL ctEntry x.Replica.Log) + ↑(ctL ctI x.Replica.Oks) + ↑(ctL ctB x.Replica.Asks) + ↑(ctL ctDoer x.Replica.Doers) + ↑(ctL ctMail x.Send) ≤ 4611686018427387904) :
    Calls Try.prog 49 #[.agg #[.int .i64 x.Code, .int .i64 x.Replica.Id, .int .i64 x.Replica.Size, .int .i64 x.Replica.View, .bool x.Replica.Normal, .int .i64 x.Replica.Last, .slice A6 x.Replica.Log.length c6, .int .i64 x.Replica.Commit, .slice A8 x.Replica.Oks.length c8, .slice A9 x.Replica.Asks.length c9, .slice A10 x.Replica.Doers.length c10, .slice A11 x.Send.length c11], .int .i64 k] w fun e' w' => e' = .returned (.int .i64 (k + ↑(ctL ctEntry x.Replica.Log) + ↑(ctL ctI x.Replica.Oks) + ↑(ctL ctB x.Replica.Asks) + ↑(ctL ctDoer x.Replica.Doers) + ↑(ctL ctMail x.Send))) ∧ Below w.heap.size w w' := by
  have n6 : 0 ≤ k + ↑(ctL ctEntry x.Replica.Log) := by omega
  have n8 : 0 ≤ k + ↑(ctL ctEntry x.Replica.Log) + ↑(ctL ctI x.Replica.Oks) := by omega
  have n9 : 0 ≤ k + ↑(ctL ctEntry x.Replica.Log) + ↑(ctL ctI x.Replica.Oks) + ↑(ctL ctB x.Replica.Asks) := by omega
  have n10 : 0 ≤ k + ↑(ctL ctEntry x.Replica.Log) + ↑(ctL ctI x.Replica.Oks) + ↑(ctL ctB x.Replica.Asks) + ↑(ctL ctDoer x.Replica.Doers) := by omega
  have n11 : 0 ≤ k + ↑(ctL ctEntry x.Replica.Log) + ↑(ctL ctI x.Replica.Oks) + ↑(ctL ctB x.Replica.Asks) + ↑(ctL ctDoer x.Replica.Doers) + ↑(ctL ctMail x.Send) := by omega
  have hx0 : Blk (w.alloc (.cells #[.int .i64 x.Code, .int .i64 x.Replica.Id, .int .i64 x.Replica.Size, .int .i64 x.Replica.View, .bool x.Replica.Normal, .int .i64 x.Replica.Last, .slice A6 x.Replica.Log.length c6, .int .i64 x.Replica.Commit, .slice A8 x.Replica.Oks.length c8, .slice A9 x.Replica.Asks.length c9, .slice A10 x.Replica.Doers.length c10, .slice A11 x.Send.length c11] 61)) w.heap.size 61 [.int .i64 x.Code, .int .i64 x.Replica.Id, .int .i64 x.Replica.Size, .int .i64 x.Replica.View, .bool x.Replica.Normal, .int .i64 x.Replica.Last, .slice A6 x.Replica.Log.length c6, .int .i64 x.Replica.Commit, .slice A8 x.Replica.Oks.length c8, .slice A9 x.Replica.Asks.length c9, .slice A10 x.Replica.Doers.length c10, .slice A11 x.Send.length c11] := blk_alloc w [.int .i64 x.Code, .int .i64 x.Replica.Id, .int .i64 x.Replica.Size, .int .i64 x.Replica.View, .bool x.Replica.Normal, .int .i64 x.Replica.Last, .slice A6 x.Replica.Log.length c6, .int .i64 x.Replica.Commit, .slice A8 x.Replica.Oks.length c8, .slice A9 x.Replica.Asks.length c9, .slice A10 x.Replica.Doers.length c10, .slice A11 x.Send.length c11] _
  go_enter Try.func49, Try.ntmps49
  have hb0 : Below w.heap.size w (w.alloc (.cells #[.int .i64 x.Code, .int .i64 x.Replica.Id, .int .i64 x.Replica.Size, .int .i64 x.Replica.View, .bool x.Replica.Normal, .int .i64 x.Replica.Last, .slice A6 x.Replica.Log.length c6, .int .i64 x.Replica.Commit, .slice A8 x.Replica.Oks.length c8, .slice A9 x.Replica.Asks.length c9, .slice A10 x.Replica.Doers.length c10, .slice A11 x.Send.length c11] 61)) := below_alloc (Below.refl _ _) _
  go_wp2_with fail
  refine Calls.mono (heldReplica_c x.Replica A6 c6 A8 c8 A9 c9 A10 c10 _ _ (h6.below (by repeat (first | (with_reducible assumption) | (with_reducible exact Below.refl _ _) | (with_reducible apply below_alloc) | (with_reducible apply below_drewN) | (with_reducible apply Below.drew) | (with_reducible refine below_set ?_ (by dsimp only; omega) _) | (with_reducible refine below_trans ?_ (by assumption))))) (h8.below (by repeat (first | (with_reducible assumption) | (with_reducible exact Below.refl _ _) | (with_reducible apply below_alloc) | (with_reducible apply below_drewN) | (with_reducible apply Below.drew) | (with_reducible refine below_set ?_ (by dsimp only; omega) _) | (with_reducible refine below_trans ?_ (by assumption))))) (h9.below (by repeat (first | (with_reducible assumption) | (with_reducible exact Below.refl _ _) | (with_reducible apply below_alloc) | (with_reducible apply below_drewN) | (with_reducible apply Below.drew) | (with_reducible refine below_set ?_ (by dsimp only; omega) _) | (with_reducible refine below_trans ?_ (by assumption))))) (h10.below (by repeat (first | (with_reducible assumption) | (with_reducible exact Below.refl _ _) | (with_reducible apply below_alloc) | (with_reducible apply below_drewN) | (with_reducible apply Below.drew) | (with_reducible refine below_set ?_ (by dsimp only; omega) _) | (with_reducible refine below_trans ?_ (by assumption))))) (by omega) (by omega)) ?_
  rintro e0 w1 ⟨rfl, hb1⟩
  have hx1 := Blk.below hx0 hb1
  have q0_11 := hx1.cell (j := 11) rfl
  go_wp2_with fail
  refine Calls.mono (heldMailS_c x.Send A11 c11 _ _ (h11.below (by repeat (first | (with_reducible assumption) | (with_reducible exact Below.refl _ _) | (with_reducible apply below_alloc) | (with_reducible apply below_drewN) | (with_reducible apply Below.drew) | (with_reducible refine below_set ?_ (by dsimp only; omega) _) | (with_reducible refine below_trans ?_ (by assumption))))) (by omega) (by omega)) ?_
  rintro e1 w2 ⟨rfl, rfl⟩
  go_wp2_with fail
  go_ret
  exact ⟨rfl, by repeat (first | (with_reducible assumption) | (with_reducible exact Below.refl _ _) | (with_reducible apply below_alloc) | (with_reducible apply below_drewN) | (with_reducible apply Below.drew) | (with_reducible refine below_set ?_ (by dsimp only; omega) _) | (with_reducible refine below_trans ?_ (by assumption)))⟩

end Go.Proofs.Ytfffbjeaebmhbaa
