/- Marks of whole values; marks that are held (written by gM.py, own work). -/
import Derived.Test.YtjljnkbiakadeaaGreatM1
set_option linter.unusedVariables false
set_option linter.unusedSimpArgs false
namespace Go.Proofs.YtjljnkbiakadeaaGreat
open Go Go.RowKit Mk

set_option maxRecDepth 100000 in
set_option maxHeartbeats 2000000 in
theorem heldInt64S_c (xs : List Int) (A : Option Addr) (c : Nat) (k : Int) (w : World) (h : RdS kInt w A c (mkL mkI ctI k xs)) (hk : 0 ≤ k) (hb : k + (ctL ctI xs : Nat) ≤ 4611686018427387904) :
    Calls Tryz.prog 179 #[.slice A xs.length c, .int .i64 k] w fun e' w' => e' = .returned (.int .i64 (k + (ctL ctI xs : Nat))) ∧ w' = w := by
  have hlen := h.le63
  rw [mkL_length] at hlen
  go_enter Tryz.func179, Tryz.ntmps179
  go_wp2_with fail
  go_loopw [1, 5] (fun q i W => ∃ m : Nat, m ≤ xs.length ∧ i = .int .i64 m ∧ q = .int .i64 (k + (ctL ctI (xs.take m) : Nat)) ∧ W = w) (fun _ i _ => xs.length - (intOf i).toNat)
  case atStart => exact ⟨0, Nat.zero_le _, rfl, by simp [ctL], rfl⟩
  case round =>
    obtain ⟨m, hm, rfl, rfl, rfl⟩ := hrel
    by_cases hlt : m < xs.length
    · have hlt' : (m : Int) < (xs.length : Int) := by omega
      have hc1 := ctL_take ctI xs m hlt
      have hc2 := ctL_le ctI xs (m + 1)
      obtain ⟨a, ea, hx⟩ := h.at_ (k := m) (by rw [mkL_length]; exact hlt)
      subst ea
      rw [mkL_get _ _ _ _ _ hlt] at hx
      clear h
      generalize xs[m] = x at hx hc1
      rw [hc1] at hc2
      have HG := Lib.hid hc1
      generalize hK : k + (ctL ctI (xs.take m) : Int) = q at hx ⊢
      have HQ := Lib.hid hK
      have hq0 : 0 ≤ q := by omega
      have hq1 : q + (ctI x : Nat) ≤ 4611686018427387904 := by omega
      clear hK hc1 hc2 hb hk
      simp only [show kInt.sz = 1 from rfl, Nat.mul_one] at hx
      obtain ⟨cs, hl, hcs⟩ := hx
      obtain rfl := hcs
      have q0 := hl.c0
      simp only [mkI] at q0
      clear hl
      replace hq1 : q + 1 ≤ 4611686018427387904 := by simp only [ctI] at hq1; omega
      go_wp2_with fail
      exact ⟨⟨m + 1, hlt, by go_num, congrArg (Value.int .i64) (by have h1 := HG.out; have h2 := HQ.out; simp only [ctI] at h1; omega), by first | rfl | trivial⟩, by simp [intOf]; omega⟩
    · have hk' : m = xs.length := by omega
      subst hk'
      rw [List.take_length]
      clear h
      go_wp2_with fail
      go_ret
      exact ⟨rfl, rfl⟩

set_option maxRecDepth 100000 in
set_option maxHeartbeats 2000000 in
theorem heldBoolS_c (xs : List Bool) (A : Option Addr) (c : Nat) (k : Int) (w : World) (h : RdS kBool w A c (mkL mkB ctB k xs)) (hk : 0 ≤ k) (hb : k + (ctL ctB xs : Nat) ≤ 4611686018427387904) :
    Calls Tryz.prog 180 #[.slice A xs.length c, .int .i64 k] w fun e' w' => e' = .returned (.int .i64 (k + (ctL ctB xs : Nat))) ∧ w' = w := by
  have hlen := h.le63
  rw [mkL_length] at hlen
  go_enter Tryz.func180, Tryz.ntmps180
  go_wp2_with fail
  go_loopw [1, 5] (fun q i W => ∃ m : Nat, m ≤ xs.length ∧ i = .int .i64 m ∧ q = .int .i64 (k + (ctL ctB (xs.take m) : Nat)) ∧ W = w) (fun _ i _ => xs.length - (intOf i).toNat)
  case atStart => exact ⟨0, Nat.zero_le _, rfl, by simp [ctL], rfl⟩
  case round =>
    obtain ⟨m, hm, rfl, rfl, rfl⟩ := hrel
    by_cases hlt : m < xs.length
    · have hlt' : (m : Int) < (xs.length : Int) := by omega
      have hc1 := ctL_take ctB xs m hlt
      have hc2 := ctL_le ctB xs (m + 1)
      obtain ⟨a, ea, hx⟩ := h.at_ (k := m) (by rw [mkL_length]; exact hlt)
      subst ea
      rw [mkL_get _ _ _ _ _ hlt] at hx
      clear h
      generalize xs[m] = x at hx hc1
      rw [hc1] at hc2
      have HG := Lib.hid hc1
      generalize hK : k + (ctL ctB (xs.take m) : Int) = q at hx ⊢
      have HQ := Lib.hid hK
      have hq0 : 0 ≤ q := by omega
      have hq1 : q + (ctB x : Nat) ≤ 4611686018427387904 := by omega
      clear hK hc1 hc2 hb hk
      simp only [show kBool.sz = 1 from rfl, Nat.mul_one] at hx
      obtain ⟨cs, hl, hcs⟩ := hx
      obtain rfl := hcs
      have q0 := hl.c0
      simp only [mkB] at q0
      clear hl
      replace hq1 : q + 1 ≤ 4611686018427387904 := by simp only [ctB] at hq1; omega
      go_wp2_with fail
      exact ⟨⟨m + 1, hlt, by go_num, congrArg (Value.int .i64) (by have h1 := HG.out; have h2 := HQ.out; simp only [ctB] at h1; omega), by first | rfl | trivial⟩, by simp [intOf]; omega⟩
    · have hk' : m = xs.length := by omega
      subst hk'
      rw [List.take_length]
      clear h
      go_wp2_with fail
      go_ret
      exact ⟨rfl, rfl⟩

set_option maxRecDepth 100000 in
set_option maxHeartbeats 2000000 in
theorem heldEntryS_c (xs : List SEntry) (A : Option Addr) (c : Nat) (k : Int) (w : World) (h : RdS kEntry w A c (mkL mkEntry ctEntry k xs)) (hk : 0 ≤ k) (hb : k + (ctL ctEntry xs : Nat) ≤ 4611686018427387904) :
    Calls Tryz.prog 125 #[.slice A xs.length c, .int .i64 k] w fun e' w' => e' = .returned (.int .i64 (k + (ctL ctEntry xs : Nat))) ∧ w' = w := by
  have hlen := h.le63
  rw [mkL_length] at hlen
  go_enter Tryz.func125, Tryz.ntmps125
  go_wp2_with fail
  go_loopw [1, 5] (fun q i W => ∃ m : Nat, m ≤ xs.length ∧ i = .int .i64 m ∧ q = .int .i64 (k + (ctL ctEntry (xs.take m) : Nat)) ∧ W = w) (fun _ i _ => xs.length - (intOf i).toNat)
  case atStart => exact ⟨0, Nat.zero_le _, rfl, by simp [ctL], rfl⟩
  case round =>
    obtain ⟨m, hm, rfl, rfl, rfl⟩ := hrel
    by_cases hlt : m < xs.length
    · have hlt' : (m : Int) < (xs.length : Int) := by omega
      have hc1 := ctL_take ctEntry xs m hlt
      have hc2 := ctL_le ctEntry xs (m + 1)
      obtain ⟨a, ea, hx⟩ := h.at_ (k := m) (by rw [mkL_length]; exact hlt)
      subst ea
      rw [mkL_get _ _ _ _ _ hlt] at hx
      clear h
      generalize xs[m] = x at hx hc1
      rw [hc1] at hc2
      have HG := Lib.hid hc1
      generalize hK : k + (ctL ctEntry (xs.take m) : Int) = q at hx ⊢
      have HQ := Lib.hid hK
      have hq0 : 0 ≤ q := by omega
      have hq1 : q + (ctEntry x : Nat) ≤ 4611686018427387904 := by omega
      clear hK hc1 hc2 hb hk
      replace hq1 : q + 1 + 1 + 1 + 1 + 1 + 1 ≤ 4611686018427387904 := by simp only [ctEntry] at hq1; omega
      simp only [show kEntry.sz = 6 from rfl] at hx
      have hq := atEntry hx
      simp only [mkEntry] at hq
      obtain ⟨q0, q1, q2, q3, q4, q5⟩ := hq
      clear hx
      go_wp2_with fail
      exact ⟨⟨m + 1, hlt, by go_num, congrArg (Value.int .i64) (by have h1 := HG.out; have h2 := HQ.out; simp only [ctEntry] at h1; omega), by first | rfl | trivial⟩, by simp [intOf]; omega⟩
    · have hk' : m = xs.length := by omega
      subst hk'
      rw [List.take_length]
      clear h
      go_wp2_with fail
      go_ret
      exact ⟨rfl, rfl⟩

set_option maxRecDepth 100000 in
set_option maxHeartbeats 2000000 in
theorem heldDoerS_c (xs : List SDoer) (A : Option Addr) (c : Nat) (k : Int) (w : World) (h : RdS kDoer w A c (mkL mkDoer ctDoer k xs)) (hk : 0 ≤ k) (hb : k + (ctL ctDoer xs : Nat) ≤ 4611686018427387904) :
    Calls Tryz.prog 181 #[.slice A xs.length c, .int .i64 k] w fun e' w' => e' = .returned (.int .i64 (k + (ctL ctDoer xs : Nat))) ∧ w' = w := by
  have hlen := h.le63
  rw [mkL_length] at hlen
  go_enter Tryz.func181, Tryz.ntmps181
  go_wp2_with fail
  go_loopw [1, 5] (fun q i W => ∃ m : Nat, m ≤ xs.length ∧ i = .int .i64 m ∧ q = .int .i64 (k + (ctL ctDoer (xs.take m) : Nat)) ∧ W = w) (fun _ i _ => xs.length - (intOf i).toNat)
  case atStart => exact ⟨0, Nat.zero_le _, rfl, by simp [ctL], rfl⟩
  case round =>
    obtain ⟨m, hm, rfl, rfl, rfl⟩ := hrel
    by_cases hlt : m < xs.length
    · have hlt' : (m : Int) < (xs.length : Int) := by omega
      have hc1 := ctL_take ctDoer xs m hlt
      have hc2 := ctL_le ctDoer xs (m + 1)
      obtain ⟨a, ea, hx⟩ := h.at_ (k := m) (by rw [mkL_length]; exact hlt)
      subst ea
      rw [mkL_get _ _ _ _ _ hlt] at hx
      clear h
      generalize xs[m] = x at hx hc1
      rw [hc1] at hc2
      have HG := Lib.hid hc1
      generalize hK : k + (ctL ctDoer (xs.take m) : Int) = q at hx ⊢
      have HQ := Lib.hid hK
      have hq0 : 0 ≤ q := by omega
      have hq1 : q + (ctDoer x : Nat) ≤ 4611686018427387904 := by omega
      clear hK hc1 hc2 hb hk
      replace hq1 : q + 1 + 1 + ↑(ctL ctEntry x.Log) + 1 ≤ 4611686018427387904 := by simp only [ctDoer] at hq1; omega
      have n2 : 0 ≤ q + 1 + 1 + ↑(ctL ctEntry x.Log) := by omega
      simp only [show kDoer.sz = 4 from rfl] at hx
      obtain ⟨A2, c2, hq⟩ := atDoer hx
      simp only [mkDoer, mkL_length] at hq
      obtain ⟨q0, q1, q2, q3, h2⟩ := hq
      clear hx
      go_wp2_with (first | (go_at_call 125; (with_reducible refine (heldEntryS_c x.Log A2 c2 _ _ h2 (by omega) (by omega)).mono ?_); rintro e w' ⟨rfl, rfl⟩))
      exact ⟨⟨m + 1, hlt, by go_num, congrArg (Value.int .i64) (by have h1 := HG.out; have h2 := HQ.out; simp only [ctDoer] at h1; omega), by first | rfl | trivial⟩, by simp [intOf]; omega⟩
    · have hk' : m = xs.length := by omega
      subst hk'
      rw [List.take_length]
      clear h
      go_wp2_with fail
      go_ret
      exact ⟨rfl, rfl⟩

set_option maxRecDepth 100000 in
set_option maxHeartbeats 2000000 in
theorem heldMailS_c (xs : List SMail) (A : Option Addr) (c : Nat) (k : Int) (w : World) (h : RdS kMail w A c (mkL mkMail ctMail k xs)) (hk : 0 ≤ k) (hb : k + (ctL ctMail xs : Nat) ≤ 4611686018427387904) :
    Calls Tryz.prog 124 #[.slice A xs.length c, .int .i64 k] w fun e' w' => e' = .returned (.int .i64 (k + (ctL ctMail xs : Nat))) ∧ w' = w := by
  have hlen := h.le63
  rw [mkL_length] at hlen
  go_enter Tryz.func124, Tryz.ntmps124
  go_wp2_with fail
  go_loopw [1, 5] (fun q i W => ∃ m : Nat, m ≤ xs.length ∧ i = .int .i64 m ∧ q = .int .i64 (k + (ctL ctMail (xs.take m) : Nat)) ∧ W = w) (fun _ i _ => xs.length - (intOf i).toNat)
  case atStart => exact ⟨0, Nat.zero_le _, rfl, by simp [ctL], rfl⟩
  case round =>
    obtain ⟨m, hm, rfl, rfl, rfl⟩ := hrel
    by_cases hlt : m < xs.length
    · have hlt' : (m : Int) < (xs.length : Int) := by omega
      have hc1 := ctL_take ctMail xs m hlt
      have hc2 := ctL_le ctMail xs (m + 1)
      obtain ⟨a, ea, hx⟩ := h.at_ (k := m) (by rw [mkL_length]; exact hlt)
      subst ea
      rw [mkL_get _ _ _ _ _ hlt] at hx
      clear h
      generalize xs[m] = x at hx hc1
      rw [hc1] at hc2
      have HG := Lib.hid hc1
      generalize hK : k + (ctL ctMail (xs.take m) : Int) = q at hx ⊢
      have HQ := Lib.hid hK
      have hq0 : 0 ≤ q := by omega
      have hq1 : q + (ctMail x : Nat) ≤ 4611686018427387904 := by omega
      clear hK hc1 hc2 hb hk
      replace hq1 : q + 1 + 1 + 1 + 1 + 1 + 1 + 1 + 1 + 1 + 1 + 1 + 1 + 1 + ↑(ctL ctEntry x.Log) + 1 ≤ 4611686018427387904 := by simp only [ctMail] at hq1; omega
      have n13 : 0 ≤ q + 1 + 1 + 1 + 1 + 1 + 1 + 1 + 1 + 1 + 1 + 1 + 1 + 1 + ↑(ctL ctEntry x.Log) := by omega
      simp only [show kMail.sz = 15 from rfl] at hx
      obtain ⟨A13, c13, hq⟩ := atMail hx
      simp only [mkMail, mkL_length] at hq
      obtain ⟨q0, q1, q2, q3, q4, q5, q6, q7, q8, q9, q10, q11, q12, q13, q14, h13⟩ := hq
      clear hx
      go_wp2_with (first | (go_at_call 125; (with_reducible refine (heldEntryS_c x.Log A13 c13 _ _ h13 (by omega) (by omega)).mono ?_); rintro e w' ⟨rfl, rfl⟩))
      exact ⟨⟨m + 1, hlt, by go_num, congrArg (Value.int .i64) (by have h1 := HG.out; have h2 := HQ.out; simp only [ctMail] at h1; omega), by first | rfl | trivial⟩, by simp [intOf]; omega⟩
    · have hk' : m = xs.length := by omega
      subst hk'
      rw [List.take_length]
      clear h
      go_wp2_with fail
      go_ret
      exact ⟨rfl, rfl⟩

set_option maxRecDepth 100000 in
set_option maxHeartbeats 2000000 in
theorem heldReplicaS_c (xs : List SReplica) (A : Option Addr) (c : Nat) (k : Int) (w : World) (h : RdS kReplica w A c (mkL mkReplica ctReplica k xs)) (hk : 0 ≤ k) (hb : k + (ctL ctReplica xs : Nat) ≤ 4611686018427387904) :
    Calls Tryz.prog 123 #[.slice A xs.length c, .int .i64 k] w fun e' w' => e' = .returned (.int .i64 (k + (ctL ctReplica xs : Nat))) ∧ w' = w := by
  have hlen := h.le63
  rw [mkL_length] at hlen
  go_enter Tryz.func123, Tryz.ntmps123
  go_wp2_with fail
  go_loopw [1, 5] (fun q i W => ∃ m : Nat, m ≤ xs.length ∧ i = .int .i64 m ∧ q = .int .i64 (k + (ctL ctReplica (xs.take m) : Nat)) ∧ W = w) (fun _ i _ => xs.length - (intOf i).toNat)
  case atStart => exact ⟨0, Nat.zero_le _, rfl, by simp [ctL], rfl⟩
  case round =>
    obtain ⟨m, hm, rfl, rfl, rfl⟩ := hrel
    by_cases hlt : m < xs.length
    · have hlt' : (m : Int) < (xs.length : Int) := by omega
      have hc1 := ctL_take ctReplica xs m hlt
      have hc2 := ctL_le ctReplica xs (m + 1)
      obtain ⟨a, ea, hx⟩ := h.at_ (k := m) (by rw [mkL_length]; exact hlt)
      subst ea
      rw [mkL_get _ _ _ _ _ hlt] at hx
      clear h
      generalize xs[m] = x at hx hc1
      rw [hc1] at hc2
      have HG := Lib.hid hc1
      generalize hK : k + (ctL ctReplica (xs.take m) : Int) = q at hx ⊢
      have HQ := Lib.hid hK
      have hq0 : 0 ≤ q := by omega
      have hq1 : q + (ctReplica x : Nat) ≤ 4611686018427387904 := by omega
      clear hK hc1 hc2 hb hk
      replace hq1 : q + 1 + 1 + 1 + 1 + 1 + ↑(ctL ctEntry x.Log) + 1 + ↑(ctL ctI x.Oks) + ↑(ctL ctB x.Asks) + ↑(ctL ctDoer x.Doers) ≤ 4611686018427387904 := by simp only [ctReplica] at hq1; omega
      have n5 : 0 ≤ q + 1 + 1 + 1 + 1 + 1 + ↑(ctL ctEntry x.Log) := by omega
      have n7 : 0 ≤ q + 1 + 1 + 1 + 1 + 1 + ↑(ctL ctEntry x.Log) + 1 + ↑(ctL ctI x.Oks) := by omega
      have n8 : 0 ≤ q + 1 + 1 + 1 + 1 + 1 + ↑(ctL ctEntry x.Log) + 1 + ↑(ctL ctI x.Oks) + ↑(ctL ctB x.Asks) := by omega
      have n9 : 0 ≤ q + 1 + 1 + 1 + 1 + 1 + ↑(ctL ctEntry x.Log) + 1 + ↑(ctL ctI x.Oks) + ↑(ctL ctB x.Asks) + ↑(ctL ctDoer x.Doers) := by omega
      simp only [show kReplica.sz = 10 from rfl] at hx
      obtain ⟨A5, c5, A7, c7, A8, c8, A9, c9, hq⟩ := atReplica hx
      simp only [mkReplica, mkL_length] at hq
      obtain ⟨q0, q1, q2, q3, q4, q5, q6, q7, q8, q9, h5, h7, h8, h9⟩ := hq
      clear hx
      go_wp2_with (first | (go_at_call 125; (with_reducible refine (heldEntryS_c x.Log A5 c5 _ _ h5 (by omega) (by omega)).mono ?_); rintro e w' ⟨rfl, rfl⟩) | (go_at_call 179; (with_reducible refine (heldInt64S_c x.Oks A7 c7 _ _ h7 (by omega) (by omega)).mono ?_); rintro e w' ⟨rfl, rfl⟩) | (go_at_call 180; (with_reducible refine (heldBoolS_c x.Asks A8 c8 _ _ h8 (by omega) (by omega)).mono ?_); rintro e w' ⟨rfl, rfl⟩) | (go_at_call 181; (with_reducible refine (heldDoerS_c x.Doers A9 c9 _ _ h9 (by omega) (by omega)).mono ?_); rintro e w' ⟨rfl, rfl⟩))
      exact ⟨⟨m + 1, hlt, by go_num, congrArg (Value.int .i64) (by have h1 := HG.out; have h2 := HQ.out; simp only [ctReplica] at h1; omega), by first | rfl | trivial⟩, by simp [intOf]; omega⟩
    · have hk' : m = xs.length := by omega
      subst hk'
      rw [List.take_length]
      clear h
      go_wp2_with fail
      go_ret
      exact ⟨rfl, rfl⟩

set_option maxRecDepth 100000 in
set_option maxHeartbeats 2000000 in
theorem markCluster_c (x : SCluster) (A0 : Option Addr) (c0 : Nat) (A1 : Option Addr) (c1 : Nat) (A2 : Option Addr) (c2 : Nat) (k : Int) (B : Nat) (f0 : List Nat) (f1 : List Nat) (f2 : List Nat) (w : World) (h0 : OwnS kReplica 82 B w f0 (.slice A0 x.Nodes.length c0) x.Nodes) (h1 : OwnS kMail 113 B w f1 (.slice A1 x.Mails.length c1) x.Mails) (h2 : OwnS kEntry 54 B w f2 (.slice A2 x.Sealed.length c2) x.Sealed) (nd : ((f0 ++ (f1 ++ f2)) : List Nat).Nodup) (hk : 0 ≤ k) (hb : k + ↑(ctL ctReplica x.Nodes) + ↑(ctL ctMail x.Mails) + ↑(ctL ctEntry x.Sealed) ≤ 4611686018427387904) :
    Calls Tryz.prog 22 #[.agg #[.slice A0 x.Nodes.length c0, .slice A1 x.Mails.length c1, .slice A2 x.Sealed.length c2], .int .i64 k] w fun e' w' => e' = .returned (.int .i64 (k + ↑(ctL ctReplica x.Nodes) + ↑(ctL ctMail x.Mails) + ↑(ctL ctEntry x.Sealed))) ∧ OwnS kReplica 82 B w' f0 (.slice A0 x.Nodes.length c0) (mkL mkReplica ctReplica (k) x.Nodes) ∧ OwnS kMail 113 B w' f1 (.slice A1 x.Mails.length c1) (mkL mkMail ctMail (k + ↑(ctL ctReplica x.Nodes)) x.Mails) ∧ OwnS kEntry 54 B w' f2 (.slice A2 x.Sealed.length c2) (mkL mkEntry ctEntry (k + ↑(ctL ctReplica x.Nodes) + ↑(ctL ctMail x.Mails)) x.Sealed) ∧ Turn (f0 ++ (f1 ++ f2)) w w' := by
  have n0 : 0 ≤ k + ↑(ctL ctReplica x.Nodes) := by omega
  have n1 : 0 ≤ k + ↑(ctL ctReplica x.Nodes) + ↑(ctL ctMail x.Mails) := by omega
  have n2 : 0 ≤ k + ↑(ctL ctReplica x.Nodes) + ↑(ctL ctMail x.Mails) + ↑(ctL ctEntry x.Sealed) := by omega
  have i0 : ∀ b ∈ f0, b < w.heap.size := fun b hb => (h0.in b hb).2
  have i1 : ∀ b ∈ f1, b < w.heap.size := fun b hb => (h1.in b hb).2
  have i2 : ∀ b ∈ f2, b < w.heap.size := fun b hb => (h2.in b hb).2
  simp only [List.nodup_append, List.mem_append] at nd
  have hx0 : Blk (w.alloc (.cells #[.slice A0 x.Nodes.length c0, .slice A1 x.Mails.length c1, .slice A2 x.Sealed.length c2] 28)) w.heap.size 28 [.slice A0 x.Nodes.length c0, .slice A1 x.Mails.length c1, .slice A2 x.Sealed.length c2] := blk_alloc w [.slice A0 x.Nodes.length c0, .slice A1 x.Mails.length c1, .slice A2 x.Sealed.length c2] _
  go_enter Tryz.func22, Tryz.ntmps22
  have h0 := OwnS.keep h0 (w' := (w.alloc (.cells #[.slice A0 x.Nodes.length c0, .slice A1 x.Mails.length c1, .slice A2 x.Sealed.length c2] 28))) (fun b hb => Below.heap_alloc _ _ _ (i0 b hb))
  have h1 := OwnS.keep h1 (w' := (w.alloc (.cells #[.slice A0 x.Nodes.length c0, .slice A1 x.Mails.length c1, .slice A2 x.Sealed.length c2] 28))) (fun b hb => Below.heap_alloc _ _ _ (i1 b hb))
  have h2 := OwnS.keep h2 (w' := (w.alloc (.cells #[.slice A0 x.Nodes.length c0, .slice A1 x.Mails.length c1, .slice A2 x.Sealed.length c2] 28))) (fun b hb => Below.heap_alloc _ _ _ (i2 b hb))
  have ht : Turn (f0 ++ (f1 ++ f2)) w (w.alloc (.cells #[.slice A0 x.Nodes.length c0, .slice A1 x.Mails.length c1, .slice A2 x.Sealed.length c2] 28)) := (Turn.refl _ _).alloc _
  go_wp2_with fail
  refine Calls.mono (markReplicaS_c x.Nodes A0 c0 _ B f0 _ h0 (by first | exact nd | simp_all) (by omega) (by omega)) ?_
  rintro e0 w1 ⟨rfl, o0, t0⟩
  have p0_1 := OwnS.turn h1 t0 (by intro b hb hm; (try simp only [List.mem_append] at hm); grind)
  have p0_2 := OwnS.turn h2 t0 (by intro b hb hm; (try simp only [List.mem_append] at hm); grind)
  have ht := ht.trans (t0.mono (fq := (f0 ++ (f1 ++ f2))) (by intro b hb; simp only [List.mem_append] at hb ⊢; grind))
  have hx1 := Blk.keep hx0 (t0.block _ hx0.lt (by intro hm; (try simp only [List.mem_append] at hm); grind))
  have q0_1 := hx1.cell (j := 1) rfl
  go_wp2_with fail
  refine Calls.mono (markMailS_c x.Mails A1 c1 _ B f1 _ p0_1 (by first | exact nd | simp_all) (by omega) (by omega)) ?_
  rintro e1 w2 ⟨rfl, o1, t1⟩
  have p1_0 := OwnS.turn o0 t1 (by intro b hb hm; (try simp only [List.mem_append] at hm); grind)
  have p1_2 := OwnS.turn p0_2 t1 (by intro b hb hm; (try simp only [List.mem_append] at hm); grind)
  have ht := ht.trans (t1.mono (fq := (f0 ++ (f1 ++ f2))) (by intro b hb; simp only [List.mem_append] at hb ⊢; grind))
  have hx2 := Blk.keep hx1 (t1.block _ hx1.lt (by intro hm; (try simp only [List.mem_append] at hm); grind))
  have q1_2 := hx2.cell (j := 2) rfl
  go_wp2_with fail
  refine Calls.mono (markEntryS_c x.Sealed A2 c2 _ B f2 _ p1_2 (by first | exact nd | simp_all) (by omega) (by omega)) ?_
  rintro e2 w3 ⟨rfl, o2, t2⟩
  have p2_0 := OwnS.turn p1_0 t2 (by intro b hb hm; (try simp only [List.mem_append] at hm); grind)
  have p2_1 := OwnS.turn o1 t2 (by intro b hb hm; (try simp only [List.mem_append] at hm); grind)
  have ht := ht.trans (t2.mono (fq := (f0 ++ (f1 ++ f2))) (by intro b hb; simp only [List.mem_append] at hb ⊢; grind))
  have hx3 := Blk.keep hx2 (t2.block _ hx2.lt (by intro hm; (try simp only [List.mem_append] at hm); grind))
  go_wp2_with fail
  go_ret
  exact ⟨rfl, p2_0, p2_1, o2, ht⟩

set_option maxRecDepth 100000 in
set_option maxHeartbeats 2000000 in
theorem heldCluster_c (x : SCluster) (A0 : Option Addr) (c0 : Nat) (A1 : Option Addr) (c1 : Nat) (A2 : Option Addr) (c2 : Nat) (k : Int) (w : World) (h0 : RdS kReplica w A0 c0 (mkL mkReplica ctReplica (k) x.Nodes)) (h1 : RdS kMail w A1 c1 (mkL mkMail ctMail (k + ↑(ctL ctReplica x.Nodes)) x.Mails)) (h2 : RdS kEntry w A2 c2 (mkL mkEntry ctEntry (k + ↑(ctL ctReplica x.Nodes) + ↑(ctL ctMail x.Mails)) x.Sealed)) (hk : 0 ≤ k) (hb : k + ↑(ctL ctReplica x.Nodes) + ↑(ctL ctMail x.Mails) + ↑(ctL ctEntry x.Sealed) ≤ 4611686018427387904) :
    Calls Tryz.prog 69 #[.agg #[.slice A0 x.Nodes.length c0, .slice A1 x.Mails.length c1, .slice A2 x.Sealed.length c2], .int .i64 k] w fun e' w' => e' = .returned (.int .i64 (k + ↑(ctL ctReplica x.Nodes) + ↑(ctL ctMail x.Mails) + ↑(ctL ctEntry x.Sealed))) ∧ Below w.heap.size w w' := by
  have n0 : 0 ≤ k + ↑(ctL ctReplica x.Nodes) := by omega
  have n1 : 0 ≤ k + ↑(ctL ctReplica x.Nodes) + ↑(ctL ctMail x.Mails) := by omega
  have n2 : 0 ≤ k + ↑(ctL ctReplica x.Nodes) + ↑(ctL ctMail x.Mails) + ↑(ctL ctEntry x.Sealed) := by omega
  have hx0 : Blk (w.alloc (.cells #[.slice A0 x.Nodes.length c0, .slice A1 x.Mails.length c1, .slice A2 x.Sealed.length c2] 28)) w.heap.size 28 [.slice A0 x.Nodes.length c0, .slice A1 x.Mails.length c1, .slice A2 x.Sealed.length c2] := blk_alloc w [.slice A0 x.Nodes.length c0, .slice A1 x.Mails.length c1, .slice A2 x.Sealed.length c2] _
  go_enter Tryz.func69, Tryz.ntmps69
  have hb0 : Below w.heap.size w (w.alloc (.cells #[.slice A0 x.Nodes.length c0, .slice A1 x.Mails.length c1, .slice A2 x.Sealed.length c2] 28)) := below_alloc (Below.refl _ _) _
  go_wp2_with fail
  refine Calls.mono (heldReplicaS_c x.Nodes A0 c0 _ _ (h0.below (by repeat (first | (with_reducible assumption) | (with_reducible exact Below.refl _ _) | (with_reducible apply below_alloc) | (with_reducible apply below_drewN) | (with_reducible apply Below.drew) | (with_reducible refine below_set ?_ (by dsimp only; omega) _) | (with_reducible refine below_trans ?_ (by assumption))))) (by omega) (by omega)) ?_
  rintro e0 w1 ⟨rfl, rfl⟩
  have q0_1 := hx0.cell (j := 1) rfl
  go_wp2_with fail
  refine Calls.mono (heldMailS_c x.Mails A1 c1 _ _ (h1.below (by repeat (first | (with_reducible assumption) | (with_reducible exact Below.refl _ _) | (with_reducible apply below_alloc) | (with_reducible apply below_drewN) | (with_reducible apply Below.drew) | (with_reducible refine below_set ?_ (by dsimp only; omega) _) | (with_reducible refine below_trans ?_ (by assumption))))) (by omega) (by omega)) ?_
  rintro e1 w2 ⟨rfl, rfl⟩
  have q1_2 := hx0.cell (j := 2) rfl
  go_wp2_with fail
  refine Calls.mono (heldEntryS_c x.Sealed A2 c2 _ _ (h2.below (by repeat (first | (with_reducible assumption) | (with_reducible exact Below.refl _ _) | (with_reducible apply below_alloc) | (with_reducible apply below_drewN) | (with_reducible apply Below.drew) | (with_reducible refine below_set ?_ (by dsimp only; omega) _) | (with_reducible refine below_trans ?_ (by assumption))))) (by omega) (by omega)) ?_
  rintro e2 w3 ⟨rfl, rfl⟩
  go_wp2_with fail
  go_ret
  exact ⟨rfl, by repeat (first | (with_reducible assumption) | (with_reducible exact Below.refl _ _) | (with_reducible apply below_alloc) | (with_reducible apply below_drewN) | (with_reducible apply Below.drew) | (with_reducible refine below_set ?_ (by dsimp only; omega) _) | (with_reducible refine below_trans ?_ (by assumption)))⟩

set_option maxRecDepth 100000 in
set_option maxHeartbeats 2000000 in
theorem markClusterResult_c (x : SClusterResult) (A1 : Option Addr) (c1 : Nat) (A2 : Option Addr) (c2 : Nat) (A3 : Option Addr) (c3 : Nat) (k : Int) (B : Nat) (f1 : List Nat) (f2 : List Nat) (f3 : List Nat) (w : World) (h1 : OwnS kReplica 82 B w f1 (.slice A1 x.Cluster.Nodes.length c1) x.Cluster.Nodes) (h2 : OwnS kMail 113 B w f2 (.slice A2 x.Cluster.Mails.length c2) x.Cluster.Mails) (h3 : OwnS kEntry 54 B w f3 (.slice A3 x.Cluster.Sealed.length c3) x.Cluster.Sealed) (nd : ((f1 ++ (f2 ++ f3)) : List Nat).Nodup) (hk : 0 ≤ k) (hb : k + ↑(ctL ctReplica x.Cluster.Nodes) + ↑(ctL ctMail x.Cluster.Mails) + ↑(ctL ctEntry x.Cluster.Sealed) ≤ 4611686018427387904) :
    Calls Tryz.prog 23 #[.agg #[.int .i64 x.Code, .slice A1 x.Cluster.Nodes.length c1, .slice A2 x.Cluster.Mails.length c2, .slice A3 x.Cluster.Sealed.length c3], .int .i64 k] w fun e' w' => e' = .returned (.int .i64 (k + ↑(ctL ctReplica x.Cluster.Nodes) + ↑(ctL ctMail x.Cluster.Mails) + ↑(ctL ctEntry x.Cluster.Sealed))) ∧ OwnS kReplica 82 B w' f1 (.slice A1 x.Cluster.Nodes.length c1) (mkL mkReplica ctReplica (k) x.Cluster.Nodes) ∧ OwnS kMail 113 B w' f2 (.slice A2 x.Cluster.Mails.length c2) (mkL mkMail ctMail (k + ↑(ctL ctReplica x.Cluster.Nodes)) x.Cluster.Mails) ∧ OwnS kEntry 54 B w' f3 (.slice A3 x.Cluster.Sealed.length c3) (mkL mkEntry ctEntry (k + ↑(ctL ctReplica x.Cluster.Nodes) + ↑(ctL ctMail x.Cluster.Mails)) x.Cluster.Sealed) ∧ Turn (f1 ++ (f2 ++ f3)) w w' := by
  have n1 : 0 ≤ k + ↑(ctL ctReplica x.Cluster.Nodes) := by omega
  have n2 : 0 ≤ k + ↑(ctL ctReplica x.Cluster.Nodes) + ↑(ctL ctMail x.Cluster.Mails) := by omega
  have n3 : 0 ≤ k + ↑(ctL ctReplica x.Cluster.Nodes) + ↑(ctL ctMail x.Cluster.Mails) + ↑(ctL ctEntry x.Cluster.Sealed) := by omega
  have i1 : ∀ b ∈ f1, b < w.heap.size := fun b hb => (h1.in b hb).2
  have i2 : ∀ b ∈ f2, b < w.heap.size := fun b hb => (h2.in b hb).2
  have i3 : ∀ b ∈ f3, b < w.heap.size := fun b hb => (h3.in b hb).2
  simp only [List.nodup_append, List.mem_append] at nd
  have hx0 : Blk (w.alloc (.cells #[.int .i64 x.Code, .slice A1 x.Cluster.Nodes.length c1, .slice A2 x.Cluster.Mails.length c2, .slice A3 x.Cluster.Sealed.length c3] 39)) w.heap.size 39 [.int .i64 x.Code, .slice A1 x.Cluster.Nodes.length c1, .slice A2 x.Cluster.Mails.length c2, .slice A3 x.Cluster.Sealed.length c3] := blk_alloc w [.int .i64 x.Code, .slice A1 x.Cluster.Nodes.length c1, .slice A2 x.Cluster.Mails.length c2, .slice A3 x.Cluster.Sealed.length c3] _
  go_enter Tryz.func23, Tryz.ntmps23
  have h1 := OwnS.keep h1 (w' := (w.alloc (.cells #[.int .i64 x.Code, .slice A1 x.Cluster.Nodes.length c1, .slice A2 x.Cluster.Mails.length c2, .slice A3 x.Cluster.Sealed.length c3] 39))) (fun b hb => Below.heap_alloc _ _ _ (i1 b hb))
  have h2 := OwnS.keep h2 (w' := (w.alloc (.cells #[.int .i64 x.Code, .slice A1 x.Cluster.Nodes.length c1, .slice A2 x.Cluster.Mails.length c2, .slice A3 x.Cluster.Sealed.length c3] 39))) (fun b hb => Below.heap_alloc _ _ _ (i2 b hb))
  have h3 := OwnS.keep h3 (w' := (w.alloc (.cells #[.int .i64 x.Code, .slice A1 x.Cluster.Nodes.length c1, .slice A2 x.Cluster.Mails.length c2, .slice A3 x.Cluster.Sealed.length c3] 39))) (fun b hb => Below.heap_alloc _ _ _ (i3 b hb))
  have ht : Turn (f1 ++ (f2 ++ f3)) w (w.alloc (.cells #[.int .i64 x.Code, .slice A1 x.Cluster.Nodes.length c1, .slice A2 x.Cluster.Mails.length c2, .slice A3 x.Cluster.Sealed.length c3] 39)) := (Turn.refl _ _).alloc _
  go_wp2_with fail
  refine Calls.mono (markCluster_c x.Cluster A1 c1 A2 c2 A3 c3 _ B f1 f2 f3 _ h1 h2 h3 (by first | exact nd | (simp only [List.nodup_append, List.mem_append]; grind)) (by omega) (by omega)) ?_
  rintro e0 w1 ⟨rfl, o1, o2, o3, t0⟩
  have ht := ht.trans (t0.mono (fq := (f1 ++ (f2 ++ f3))) (by intro b hb; simp only [List.mem_append] at hb ⊢; grind))
  have hx1 := Blk.keep hx0 (t0.block _ hx0.lt (by intro hm; (try simp only [List.mem_append] at hm); grind))
  go_wp2_with fail
  go_ret
  exact ⟨rfl, o1, o2, o3, ht⟩

set_option maxRecDepth 100000 in
set_option maxHeartbeats 2000000 in
theorem heldClusterResult_c (x : SClusterResult) (A1 : Option Addr) (c1 : Nat) (A2 : Option Addr) (c2 : Nat) (A3 : Option Addr) (c3 : Nat) (k : Int) (w : World) (h1 : RdS kReplica w A1 c1 (mkL mkReplica ctReplica (k) x.Cluster.Nodes)) (h2 : RdS kMail w A2 c2 (mkL mkMail ctMail (k + ↑(ctL ctReplica x.Cluster.Nodes)) x.Cluster.Mails)) (h3 : RdS kEntry w A3 c3 (mkL mkEntry ctEntry (k + ↑(ctL ctReplica x.Cluster.Nodes) + ↑(ctL ctMail x.Cluster.Mails)) x.Cluster.Sealed)) (hk : 0 ≤ k) (hb : k + ↑(ctL ctReplica x.Cluster.Nodes) + ↑(ctL ctMail x.Cluster.Mails) + ↑(ctL ctEntry x.Cluster.Sealed) ≤ 4611686018427387904) :
    Calls Tryz.prog 24 #[.agg #[.int .i64 x.Code, .slice A1 x.Cluster.Nodes.length c1, .slice A2 x.Cluster.Mails.length c2, .slice A3 x.Cluster.Sealed.length c3], .int .i64 k] w fun e' w' => e' = .returned (.int .i64 (k + ↑(ctL ctReplica x.Cluster.Nodes) + ↑(ctL ctMail x.Cluster.Mails) + ↑(ctL ctEntry x.Cluster.Sealed))) ∧ Below w.heap.size w w' := by
  have n1 : 0 ≤ k + ↑(ctL ctReplica x.Cluster.Nodes) := by omega
  have n2 : 0 ≤ k + ↑(ctL ctReplica x.Cluster.Nodes) + ↑(ctL ctMail x.Cluster.Mails) := by omega
  have n3 : 0 ≤ k + ↑(ctL ctReplica x.Cluster.Nodes) + ↑(ctL ctMail x.Cluster.Mails) + ↑(ctL ctEntry x.Cluster.Sealed) := by omega
  have hx0 : Blk (w.alloc (.cells #[.int .i64 x.Code, .slice A1 x.Cluster.Nodes.length c1, .slice A2 x.Cluster.Mails.length c2, .slice A3 x.Cluster.Sealed.length c3] 39)) w.heap.size 39 [.int .i64 x.Code, .slice A1 x.Cluster.Nodes.length c1, .slice A2 x.Cluster.Mails.length c2, .slice A3 x.Cluster.Sealed.length c3] := blk_alloc w [.int .i64 x.Code, .slice A1 x.Cluster.Nodes.length c1, .slice A2 x.Cluster.Mails.length c2, .slice A3 x.Cluster.Sealed.length c3] _
  go_enter Tryz.func24, Tryz.ntmps24
  have hb0 : Below w.heap.size w (w.alloc (.cells #[.int .i64 x.Code, .slice A1 x.Cluster.Nodes.length c1, .slice A2 x.Cluster.Mails.length c2, .slice A3 x.Cluster.Sealed.length c3] 39)) := below_alloc (Below.refl _ _) _
  go_wp2_with fail
  refine Calls.mono (heldCluster_c x.Cluster A1 c1 A2 c2 A3 c3 _ _ (h1.below (by repeat (first | (with_reducible assumption) | (with_reducible exact Below.refl _ _) | (with_reducible apply below_alloc) | (with_reducible apply below_drewN) | (with_reducible apply Below.drew) | (with_reducible refine below_set ?_ (by dsimp only; omega) _) | (with_reducible refine below_trans ?_ (by assumption))))) (h2.below (by repeat (first | (with_reducible assumption) | (with_reducible exact Below.refl _ _) | (with_reducible apply below_alloc) | (with_reducible apply below_drewN) | (with_reducible apply Below.drew) | (with_reducible refine below_set ?_ (by dsimp only; omega) _) | (with_reducible refine below_trans ?_ (by assumption))))) (h3.below (by repeat (first | (with_reducible assumption) | (with_reducible exact Below.refl _ _) | (with_reducible apply below_alloc) | (with_reducible apply below_drewN) | (with_reducible apply Below.drew) | (with_reducible refine below_set ?_ (by dsimp only; omega) _) | (with_reducible refine below_trans ?_ (by assumption))))) (by omega) (by omega)) ?_
  rintro e0 w1 ⟨rfl, hb1⟩
  have hx1 := Blk.below hx0 hb1
  go_wp2_with fail
  go_ret
  exact ⟨rfl, by repeat (first | (with_reducible assumption) | (with_reducible exact Below.refl _ _) | (with_reducible apply below_alloc) | (with_reducible apply below_drewN) | (with_reducible apply Below.drew) | (with_reducible refine below_set ?_ (by dsimp only; omega) _) | (with_reducible refine below_trans ?_ (by assumption)))⟩

set_option maxRecDepth 100000 in
set_option maxHeartbeats 2000000 in
theorem markDriveResult_c (x : SDriveResult) (A2 : Option Addr) (c2 : Nat) (A3 : Option Addr) (c3 : Nat) (A4 : Option Addr) (c4 : Nat) (k : Int) (B : Nat) (f2 : List Nat) (f3 : List Nat) (f4 : List Nat) (w : World) (h2 : OwnS kReplica 82 B w f2 (.slice A2 x.Cluster.Nodes.length c2) x.Cluster.Nodes) (h3 : OwnS kMail 113 B w f3 (.slice A3 x.Cluster.Mails.length c3) x.Cluster.Mails) (h4 : OwnS kEntry 54 B w f4 (.slice A4 x.Cluster.Sealed.length c4) x.Cluster.Sealed) (nd : ((f2 ++ (f3 ++ f4)) : List Nat).Nodup) (hk : 0 ≤ k) (hb : k + ↑(ctL ctReplica x.Cluster.Nodes) + ↑(ctL ctMail x.Cluster.Mails) + ↑(ctL ctEntry x.Cluster.Sealed) ≤ 4611686018427387904) :
    Calls Tryz.prog 37 #[.agg #[.int .i64 x.Code, .int .i64 x.Rounds, .slice A2 x.Cluster.Nodes.length c2, .slice A3 x.Cluster.Mails.length c3, .slice A4 x.Cluster.Sealed.length c4], .int .i64 k] w fun e' w' => e' = .returned (.int .i64 (k + ↑(ctL ctReplica x.Cluster.Nodes) + ↑(ctL ctMail x.Cluster.Mails) + ↑(ctL ctEntry x.Cluster.Sealed))) ∧ OwnS kReplica 82 B w' f2 (.slice A2 x.Cluster.Nodes.length c2) (mkL mkReplica ctReplica (k) x.Cluster.Nodes) ∧ OwnS kMail 113 B w' f3 (.slice A3 x.Cluster.Mails.length c3) (mkL mkMail ctMail (k + ↑(ctL ctReplica x.Cluster.Nodes)) x.Cluster.Mails) ∧ OwnS kEntry 54 B w' f4 (.slice A4 x.Cluster.Sealed.length c4) (mkL mkEntry ctEntry (k + ↑(ctL ctReplica x.Cluster.Nodes) + ↑(ctL ctMail x.Cluster.Mails)) x.Cluster.Sealed) ∧ Turn (f2 ++ (f3 ++ f4)) w w' := by
  have n2 : 0 ≤ k + ↑(ctL ctReplica x.Cluster.Nodes) := by omega
  have n3 : 0 ≤ k + ↑(ctL ctReplica x.Cluster.Nodes) + ↑(ctL ctMail x.Cluster.Mails) := by omega
  have n4 : 0 ≤ k + ↑(ctL ctReplica x.Cluster.Nodes) + ↑(ctL ctMail x.Cluster.Mails) + ↑(ctL ctEntry x.Cluster.Sealed) := by omega
  have i2 : ∀ b ∈ f2, b < w.heap.size := fun b hb => (h2.in b hb).2
  have i3 : ∀ b ∈ f3, b < w.heap.size := fun b hb => (h3.in b hb).2
  have i4 : ∀ b ∈ f4, b < w.heap.size := fun b hb => (h4.in b hb).2
  simp only [List.nodup_append, List.mem_append] at nd
  have hx0 : Blk (w.alloc (.cells #[.int .i64 x.Code, .int .i64 x.Rounds, .slice A2 x.Cluster.Nodes.length c2, .slice A3 x.Cluster.Mails.length c3, .slice A4 x.Cluster.Sealed.length c4] 60)) w.heap.size 60 [.int .i64 x.Code, .int .i64 x.Rounds, .slice A2 x.Cluster.Nodes.length c2, .slice A3 x.Cluster.Mails.length c3, .slice A4 x.Cluster.Sealed.length c4] := blk_alloc w [.int .i64 x.Code, .int .i64 x.Rounds, .slice A2 x.Cluster.Nodes.length c2, .slice A3 x.Cluster.Mails.length c3, .slice A4 x.Cluster.Sealed.length c4] _
  go_enter Tryz.func37, Tryz.ntmps37
  have h2 := OwnS.keep h2 (w' := (w.alloc (.cells #[.int .i64 x.Code, .int .i64 x.Rounds, .slice A2 x.Cluster.Nodes.length c2, .slice A3 x.Cluster.Mails.length c3, .slice A4 x.Cluster.Sealed.length c4] 60))) (fun b hb => Below.heap_alloc _ _ _ (i2 b hb))
  have h3 := OwnS.keep h3 (w' := (w.alloc (.cells #[.int .i64 x.Code, .int .i64 x.Rounds, .slice A2 x.Cluster.Nodes.length c2, .slice A3 x.Cluster.Mails.length c3, .slice A4 x.Cluster.Sealed.length c4] 60))) (fun b hb => Below.heap_alloc _ _ _ (i3 b hb))
  have h4 := OwnS.keep h4 (w' := (w.alloc (.cells #[.int .i64 x.Code, .int .i64 x.Rounds, .slice A2 x.Cluster.Nodes.length c2, .slice A3 x.Cluster.Mails.length c3, .slice A4 x.Cluster.Sealed.length c4] 60))) (fun b hb => Below.heap_alloc _ _ _ (i4 b hb))
  have ht : Turn (f2 ++ (f3 ++ f4)) w (w.alloc (.cells #[.int .i64 x.Code, .int .i64 x.Rounds, .slice A2 x.Cluster.Nodes.length c2, .slice A3 x.Cluster.Mails.length c3, .slice A4 x.Cluster.Sealed.length c4] 60)) := (Turn.refl _ _).alloc _
  go_wp2_with fail
  refine Calls.mono (markCluster_c x.Cluster A2 c2 A3 c3 A4 c4 _ B f2 f3 f4 _ h2 h3 h4 (by first | exact nd | (simp only [List.nodup_append, List.mem_append]; grind)) (by omega) (by omega)) ?_
  rintro e0 w1 ⟨rfl, o2, o3, o4, t0⟩
  have ht := ht.trans (t0.mono (fq := (f2 ++ (f3 ++ f4))) (by intro b hb; simp only [List.mem_append] at hb ⊢; grind))
  have hx1 := Blk.keep hx0 (t0.block _ hx0.lt (by intro hm; (try simp only [List.mem_append] at hm); grind))
  go_wp2_with fail
  go_ret
  exact ⟨rfl, o2, o3, o4, ht⟩

set_option maxRecDepth 100000 in
set_option maxHeartbeats 2000000 in
theorem heldDriveResult_c (x : SDriveResult) (A2 : Option Addr) (c2 : Nat) (A3 : Option Addr) (c3 : Nat) (A4 : Option Addr) (c4 : Nat) (k : Int) (w : World) (h2 : RdS kReplica w A2 c2 (mkL mkReplica ctReplica (k) x.Cluster.Nodes)) (h3 : RdS kMail w A3 c3 (mkL mkMail ctMail (k + ↑(ctL ctReplica x.Cluster.Nodes)) x.Cluster.Mails)) (h4 : RdS kEntry w A4 c4 (mkL mkEntry ctEntry (k + ↑(ctL ctReplica x.Cluster.Nodes) + ↑(ctL ctMail x.Cluster.Mails)) x.Cluster.Sealed)) (hk : 0 ≤ k) (hb : k + ↑(ctL ctReplica x.Cluster.Nodes) + ↑(ctL ctMail x.Cluster.Mails) + ↑(ctL ctEntry x.Cluster.Sealed) ≤ 4611686018427387904) :
    Calls Tryz.prog 38 #[.agg #[.int .i64 x.Code, .int .i64 x.Rounds, .slice A2 x.Cluster.Nodes.length c2, .slice A3 x.Cluster.Mails.length c3, .slice A4 x.Cluster.Sealed.length c4], .int .i64 k] w fun e' w' => e' = .returned (.int .i64 (k + ↑(ctL ctReplica x.Cluster.Nodes) + ↑(ctL ctMail x.Cluster.Mails) + ↑(ctL ctEntry x.Cluster.Sealed))) ∧ Below w.heap.size w w' := by
  have n2 : 0 ≤ k + ↑(ctL ctReplica x.Cluster.Nodes) := by omega
  have n3 : 0 ≤ k + ↑(ctL ctReplica x.Cluster.Nodes) + ↑(ctL ctMail x.Cluster.Mails) := by omega
  have n4 : 0 ≤ k + ↑(ctL ctReplica x.Cluster.Nodes) + ↑(ctL ctMail x.Cluster.Mails) + ↑(ctL ctEntry x.Cluster.Sealed) := by omega
  have hx0 : Blk (w.alloc (.cells #[.int .i64 x.Code, .int .i64 x.Rounds, .slice A2 x.Cluster.Nodes.length c2, .slice A3 x.Cluster.Mails.length c3, .slice A4 x.Cluster.Sealed.length c4] 60)) w.heap.size 60 [.int .i64 x.Code, .int .i64 x.Rounds, .slice A2 x.Cluster.Nodes.length c2, .slice A3 x.Cluster.Mails.length c3, .slice A4 x.Cluster.Sealed.length c4] := blk_alloc w [.int .i64 x.Code, .int .i64 x.Rounds, .slice A2 x.Cluster.Nodes.length c2, .slice A3 x.Cluster.Mails.length c3, .slice A4 x.Cluster.Sealed.length c4] _
  go_enter Tryz.func38, Tryz.ntmps38
  have hb0 : Below w.heap.size w (w.alloc (.cells #[.int .i64 x.Code, .int .i64 x.Rounds, .slice A2 x.Cluster.Nodes.length c2, .slice A3 x.Cluster.Mails.length c3, .slice A4 x.Cluster.Sealed.length c4] 60)) := below_alloc (Below.refl _ _) _
  go_wp2_with fail
  refine Calls.mono (heldCluster_c x.Cluster A2 c2 A3 c3 A4 c4 _ _ (h2.below (by repeat (first | (with_reducible assumption) | (with_reducible exact Below.refl _ _) | (with_reducible apply below_alloc) | (with_reducible apply below_drewN) | (with_reducible apply Below.drew) | (with_reducible refine below_set ?_ (by dsimp only; omega) _) | (with_reducible refine below_trans ?_ (by assumption))))) (h3.below (by repeat (first | (with_reducible assumption) | (with_reducible exact Below.refl _ _) | (with_reducible apply below_alloc) | (with_reducible apply below_drewN) | (with_reducible apply Below.drew) | (with_reducible refine below_set ?_ (by dsimp only; omega) _) | (with_reducible refine below_trans ?_ (by assumption))))) (h4.below (by repeat (first | (with_reducible assumption) | (with_reducible exact Below.refl _ _) | (with_reducible apply below_alloc) | (with_reducible apply below_drewN) | (with_reducible apply Below.drew) | (with_reducible refine below_set ?_ (by dsimp only; omega) _) | (with_reducible refine below_trans ?_ (by assumption))))) (by omega) (by omega)) ?_
  rintro e0 w1 ⟨rfl, hb1⟩
  have hx1 := Blk.below hx0 hb1
  go_wp2_with fail
  go_ret
  exact ⟨rfl, by repeat (first | (with_reducible assumption) | (with_reducible exact Below.refl _ _) | (with_reducible apply below_alloc) | (with_reducible apply below_drewN) | (with_reducible apply Below.drew) | (with_reducible refine below_set ?_ (by dsimp only; omega) _) | (with_reducible refine below_trans ?_ (by assumption)))⟩

end Go.Proofs.YtjljnkbiakadeaaGreat
