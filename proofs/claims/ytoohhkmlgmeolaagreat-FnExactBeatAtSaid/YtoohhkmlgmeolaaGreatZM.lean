/- Marks: what the laws' marking functions come to (written by gM.py, own work). -/
import Derived.Test.YtoohhkmlgmeolaaGreatZTw
import Derived.Test.YtoohhkmlgmeolaaGreatProg
set_option linter.unusedVariables false
set_option linter.unusedSimpArgs false
namespace Go.Proofs.YtoohhkmlgmeolaaGreat
open Go Go.RowKit Mk

/-- A row's marks from k on: each element's as many as it has places. -/
def mkL {α : Type} (mk : Int → α → α) (ct : α → Nat) : Int → List α → List α
  | _, [] => []
  | k, x :: xs => mk k x :: mkL mk ct (k + (ct x : Nat)) xs
def ctL {α : Type} (ct : α → Nat) : List α → Nat
  | [] => 0
  | x :: xs => ct x + ctL ct xs
def mkI (k : Int) (x : Int) : Int := k
def mkB (k : Int) (x : Bool) : Bool := k % 3 == 0
def ctI (x : Int) : Nat := 1
def ctB (x : Bool) : Nat := 1
section
variable {α : Type} (mk : Int → α → α) (ct : α → Nat)
theorem mkL_length : ∀ (k : Int) (xs : List α), (mkL mk ct k xs).length = xs.length
  | _, [] => rfl
  | k, x :: xs => by simp [mkL, mkL_length]
theorem ctL_append : ∀ (xs ys : List α), ctL ct (xs ++ ys) = ctL ct xs + ctL ct ys
  | [], ys => by simp [ctL]
  | x :: xs, ys => by simp [ctL, ctL_append xs ys, Nat.add_assoc]
theorem mkL_append : ∀ (k : Int) (xs ys : List α), mkL mk ct k (xs ++ ys) = mkL mk ct k xs ++ mkL mk ct (k + (ctL ct xs : Nat)) ys
  | k, [], ys => by simp [mkL, ctL]
  | k, x :: xs, ys => by simp [mkL, ctL, mkL_append _ xs ys, Int.add_assoc]
theorem ctL_take (xs : List α) (m : Nat) (h : m < xs.length) : ctL ct (xs.take (m + 1)) = ctL ct (xs.take m) + ct xs[m] := by
  rw [List.take_succ_eq_append_getElem h, ctL_append]; simp [ctL]
theorem ctL_le (xs : List α) (m : Nat) : ctL ct (xs.take m) ≤ ctL ct xs := by
  have := ctL_append ct (xs.take m) (xs.drop m)
  rw [List.take_append_drop] at this; omega
theorem mkL_take (k : Int) (xs : List α) (m : Nat) (h : m < xs.length) : ∀ ys, mkL mk ct k (xs.take (m + 1)) ++ ys = mkL mk ct k (xs.take m) ++ mk (k + (ctL ct (xs.take m) : Nat)) xs[m] :: ys := by
  intro ys; rw [List.take_succ_eq_append_getElem h, mkL_append]; simp [mkL]
theorem mkL_get (k : Int) (xs : List α) (m : Nat) (h : m < xs.length) : (mkL mk ct k xs)[m]'(by rw [mkL_length]; exact h) = mk (k + (ctL ct (xs.take m) : Nat)) xs[m] := by
  have e : xs = xs.take m ++ xs[m] :: xs.drop (m + 1) := by rw [← List.drop_eq_getElem_cons h, List.take_append_drop]
  have e2 : mkL mk ct k xs = mkL mk ct k (xs.take m) ++ mk (k + (ctL ct (xs.take m) : Nat)) xs[m] :: mkL mk ct (k + (ctL ct (xs.take m) : Nat) + (ct xs[m] : Nat)) (xs.drop (m + 1)) := by
    conv => lhs; rw [e]
    rw [mkL_append]; rfl
  simp only [e2]
  rw [List.getElem_append_right (by rw [mkL_length, List.length_take]; omega)]
  simp [mkL_length, List.length_take, Nat.min_eq_left (Nat.le_of_lt h)]
end

def mkEntry (k : Int) (x : SEntry) : SEntry := ⟨(k), (k + 1), ⟨(k + 1 + 1), (k + 1 + 1 + 1), (k + 1 + 1 + 1 + 1), (k + 1 + 1 + 1 + 1 + 1)⟩⟩
def ctEntry (x : SEntry) : Nat := 1 + 1 + 1 + 1 + 1 + 1

def mkDoer (k : Int) (x : SDoer) : SDoer := ⟨((k) % 3 == 0), (k + 1), mkL mkEntry ctEntry (k + 1 + 1) x.Log, (k + 1 + 1 + (ctL ctEntry x.Log : Nat))⟩
def ctDoer (x : SDoer) : Nat := 1 + 1 + ctL ctEntry x.Log + 1

def mkMail (k : Int) (x : SMail) : SMail := ⟨(k), (k + 1), (k + 1 + 1), (k + 1 + 1 + 1), (k + 1 + 1 + 1 + 1), ((k + 1 + 1 + 1 + 1 + 1) % 3 == 0), ⟨(k + 1 + 1 + 1 + 1 + 1 + 1), (k + 1 + 1 + 1 + 1 + 1 + 1 + 1), ⟨(k + 1 + 1 + 1 + 1 + 1 + 1 + 1 + 1), (k + 1 + 1 + 1 + 1 + 1 + 1 + 1 + 1 + 1), (k + 1 + 1 + 1 + 1 + 1 + 1 + 1 + 1 + 1 + 1), (k + 1 + 1 + 1 + 1 + 1 + 1 + 1 + 1 + 1 + 1 + 1)⟩⟩, (k + 1 + 1 + 1 + 1 + 1 + 1 + 1 + 1 + 1 + 1 + 1 + 1), mkL mkEntry ctEntry (k + 1 + 1 + 1 + 1 + 1 + 1 + 1 + 1 + 1 + 1 + 1 + 1 + 1) x.Log, (k + 1 + 1 + 1 + 1 + 1 + 1 + 1 + 1 + 1 + 1 + 1 + 1 + 1 + (ctL ctEntry x.Log : Nat))⟩
def ctMail (x : SMail) : Nat := 1 + 1 + 1 + 1 + 1 + 1 + 1 + 1 + 1 + 1 + 1 + 1 + 1 + ctL ctEntry x.Log + 1

def mkReplica (k : Int) (x : SReplica) : SReplica := ⟨(k), (k + 1), (k + 1 + 1), ((k + 1 + 1 + 1) % 3 == 0), (k + 1 + 1 + 1 + 1), mkL mkEntry ctEntry (k + 1 + 1 + 1 + 1 + 1) x.Log, (k + 1 + 1 + 1 + 1 + 1 + (ctL ctEntry x.Log : Nat)), mkL mkI ctI (k + 1 + 1 + 1 + 1 + 1 + (ctL ctEntry x.Log : Nat) + 1) x.Oks, mkL mkB ctB (k + 1 + 1 + 1 + 1 + 1 + (ctL ctEntry x.Log : Nat) + 1 + (ctL ctI x.Oks : Nat)) x.Asks, mkL mkDoer ctDoer (k + 1 + 1 + 1 + 1 + 1 + (ctL ctEntry x.Log : Nat) + 1 + (ctL ctI x.Oks : Nat) + (ctL ctB x.Asks : Nat)) x.Doers⟩
def ctReplica (x : SReplica) : Nat := 1 + 1 + 1 + 1 + 1 + ctL ctEntry x.Log + 1 + ctL ctI x.Oks + ctL ctB x.Asks + ctL ctDoer x.Doers

set_option maxRecDepth 100000 in
set_option maxHeartbeats 2000000 in
theorem markInt64S_c (xs : List Int) (A : Option Addr) (c : Nat) (k : Int) (B : Nat) (fp : List Nat) (w : World) (ho : OwnS kInt 2 B w fp (.slice A xs.length c) xs) (nd : fp.Nodup) (hk : 0 ≤ k) (hb : k + (ctL ctI xs : Nat) ≤ 4611686018427387904) :
    Calls Tryz.prog 211 #[.slice A xs.length c, .int .i64 k] w fun e' w' => e' = .returned (.int .i64 (k + (ctL ctI xs : Nat))) ∧ OwnS kInt 2 B w' fp (.slice A xs.length c) (mkL mkI ctI k xs) ∧ Turn fp w w' := by
  have hlen := (ownS_rds ho).1.le63
  go_enter Tryz.func211, Tryz.ntmps211
  go_wp2_with fail
  go_loopw [1, 5] (fun q i W => ∃ m : Nat, m ≤ xs.length ∧ i = .int .i64 m ∧ q = .int .i64 (k + (ctL ctI (xs.take m) : Nat)) ∧ OwnS kInt 2 B W fp (.slice A xs.length c) (mkL mkI ctI k (xs.take m) ++ xs.drop m) ∧ Turn fp w W) (fun _ i _ => xs.length - (intOf i).toNat)
  case atStart => exact ⟨0, Nat.zero_le _, rfl, by simp [ctL], ho, Turn.refl _ _⟩
  case round =>
    clear ho
    obtain ⟨m, hm, rfl, rfl, ho, ht⟩ := hrel
    by_cases hlt : m < xs.length
    · have hlt' : (m : Int) < (xs.length : Int) := by omega
      have hc1 := ctL_take ctI xs m hlt
      have hc2 := ctL_le ctI xs (m + 1)
      have hmk := mkL_take mkI ctI k xs m hlt
      have hin := ho.in
      rw [List.drop_eq_getElem_cons hlt] at ho
      generalize hx : xs[m] = x at ho hc1 hmk
      rw [hc1] at hc2
      have HG := Lib.hid hc1
      generalize hK : k + (ctL ctI (xs.take m) : Int) = q at hmk ⊢
      have HQ := Lib.hid hK
      have hq0 : 0 ≤ q := by omega
      have hq1 : q + (ctI x : Nat) ≤ 4611686018427387904 := by omega
      have HM := Lib.hid hmk
      clear hK hc1 hx hc2 hb hk hmk
      obtain ⟨gg, fe, f1, f2, c1, ce, c2, rfl, hn, rfl, hc1, hB, hO, wand⟩ := ho.zoom nd
      rw [mkL_length, List.length_take, Nat.min_eq_left hm] at hc1
      clear ho hn
      simp only [show kInt.sz = 1 from rfl, Nat.mul_one] at hc1
      obtain ⟨rfl, rfl⟩ := hO
      have hf1 : ∀ b, b ∈ f1 ∨ b ∈ f2 → b ≠ gg := fun b hb e => nd_g nd (e ▸ hb)
      have fr : ∀ b, b ∈ f1 ∨ b ∈ f2 → wr.heap[b]? = wr.heap[b]? := fun _ _ => rfl
      have HN := Lib.hid (show c1.length = m from hc1)
      have q0 := hB.mid hc1 (j := 0) rfl
      have z0 := hB.frozen (m + 0)
      simp only [Nat.add_zero] at q0 z0
      have HB := Lib.hid hB
      clear hB
      go_wp2_with fail
      have hB := HB.out
      refine ⟨⟨m + 1, hlt, by go_num, congrArg (Value.int .i64) (by have h1 := HG.out; have h2 := HQ.out; simp only [ctI] at h1; omega), ?_, ?_⟩, by simp [intOf]; omega⟩
      · (try simp only [Nat.add_assoc, Nat.reduceAdd])
        rw [HM.out]
        have bb := (hB.set hc1 (j := 0) (by simp) (.int .i64 (q)))
        try simp only [List.set_cons_zero, List.set_cons_succ, Nat.add_zero, Nat.add_assoc, Nat.reduceAdd] at bb
        exact wand _ _ _ (mkI q x) bb (⟨rfl, rfl⟩) (fun b hb => by have hne := hf1 b hb; repeat (first | (with_reducible exact fr b hb) | rw [set_block _ _ _ _ _ hne]))
      · repeat (first | (with_reducible exact ht) | (with_reducible refine Turn.set ?_ (by simp) _))
    · have hk' : m = xs.length := by omega
      subst hk'
      rw [List.take_length, List.drop_length, List.append_nil] at ho
      have HO := Lib.hid ho
      clear ho
      go_wp2_with fail
      go_ret
      exact ⟨by first | rfl | (rw [List.take_length]; rfl), HO.out, ht⟩

set_option maxRecDepth 100000 in
set_option maxHeartbeats 2000000 in
theorem markBoolS_c (xs : List Bool) (A : Option Addr) (c : Nat) (k : Int) (B : Nat) (fp : List Nat) (w : World) (ho : OwnS kBool 4 B w fp (.slice A xs.length c) xs) (nd : fp.Nodup) (hk : 0 ≤ k) (hb : k + (ctL ctB xs : Nat) ≤ 4611686018427387904) :
    Calls Tryz.prog 212 #[.slice A xs.length c, .int .i64 k] w fun e' w' => e' = .returned (.int .i64 (k + (ctL ctB xs : Nat))) ∧ OwnS kBool 4 B w' fp (.slice A xs.length c) (mkL mkB ctB k xs) ∧ Turn fp w w' := by
  have hlen := (ownS_rds ho).1.le63
  go_enter Tryz.func212, Tryz.ntmps212
  go_wp2_with fail
  go_loopw [1, 5] (fun q i W => ∃ m : Nat, m ≤ xs.length ∧ i = .int .i64 m ∧ q = .int .i64 (k + (ctL ctB (xs.take m) : Nat)) ∧ OwnS kBool 4 B W fp (.slice A xs.length c) (mkL mkB ctB k (xs.take m) ++ xs.drop m) ∧ Turn fp w W) (fun _ i _ => xs.length - (intOf i).toNat)
  case atStart => exact ⟨0, Nat.zero_le _, rfl, by simp [ctL], ho, Turn.refl _ _⟩
  case round =>
    clear ho
    obtain ⟨m, hm, rfl, rfl, ho, ht⟩ := hrel
    by_cases hlt : m < xs.length
    · have hlt' : (m : Int) < (xs.length : Int) := by omega
      have hc1 := ctL_take ctB xs m hlt
      have hc2 := ctL_le ctB xs (m + 1)
      have hmk := mkL_take mkB ctB k xs m hlt
      have hin := ho.in
      rw [List.drop_eq_getElem_cons hlt] at ho
      generalize hx : xs[m] = x at ho hc1 hmk
      rw [hc1] at hc2
      have HG := Lib.hid hc1
      generalize hK : k + (ctL ctB (xs.take m) : Int) = q at hmk ⊢
      have HQ := Lib.hid hK
      have hq0 : 0 ≤ q := by omega
      have hq1 : q + (ctB x : Nat) ≤ 4611686018427387904 := by omega
      have HM := Lib.hid hmk
      clear hK hc1 hx hc2 hb hk hmk
      obtain ⟨gg, fe, f1, f2, c1, ce, c2, rfl, hn, rfl, hc1, hB, hO, wand⟩ := ho.zoom nd
      rw [mkL_length, List.length_take, Nat.min_eq_left hm] at hc1
      clear ho hn
      simp only [show kBool.sz = 1 from rfl, Nat.mul_one] at hc1
      obtain ⟨rfl, rfl⟩ := hO
      have hf1 : ∀ b, b ∈ f1 ∨ b ∈ f2 → b ≠ gg := fun b hb e => nd_g nd (e ▸ hb)
      have fr : ∀ b, b ∈ f1 ∨ b ∈ f2 → wr.heap[b]? = wr.heap[b]? := fun _ _ => rfl
      have HN := Lib.hid (show c1.length = m from hc1)
      have q0 := hB.mid hc1 (j := 0) rfl
      have z0 := hB.frozen (m + 0)
      simp only [Nat.add_zero] at q0 z0
      have HB := Lib.hid hB
      clear hB
      go_wp2_with fail
      have hB := HB.out
      refine ⟨⟨m + 1, hlt, by go_num, congrArg (Value.int .i64) (by have h1 := HG.out; have h2 := HQ.out; simp only [ctB] at h1; omega), ?_, ?_⟩, by simp [intOf]; omega⟩
      · (try simp only [Nat.add_assoc, Nat.reduceAdd])
        rw [HM.out]
        have bb := (hB.set hc1 (j := 0) (by simp) (.bool ((q) % 3 == 0)))
        try simp only [List.set_cons_zero, List.set_cons_succ, Nat.add_zero, Nat.add_assoc, Nat.reduceAdd] at bb
        exact wand _ _ _ (mkB q x) bb (⟨rfl, rfl⟩) (fun b hb => by have hne := hf1 b hb; repeat (first | (with_reducible exact fr b hb) | rw [set_block _ _ _ _ _ hne]))
      · repeat (first | (with_reducible exact ht) | (with_reducible refine Turn.set ?_ (by simp) _))
    · have hk' : m = xs.length := by omega
      subst hk'
      rw [List.take_length, List.drop_length, List.append_nil] at ho
      have HO := Lib.hid ho
      clear ho
      go_wp2_with fail
      go_ret
      exact ⟨by first | rfl | (rw [List.take_length]; rfl), HO.out, ht⟩

set_option maxRecDepth 100000 in
set_option maxHeartbeats 2000000 in
theorem markEntryS_c (xs : List SEntry) (A : Option Addr) (c : Nat) (k : Int) (B : Nat) (fp : List Nat) (w : World) (ho : OwnS kEntry 57 B w fp (.slice A xs.length c) xs) (nd : fp.Nodup) (hk : 0 ≤ k) (hb : k + (ctL ctEntry xs : Nat) ≤ 4611686018427387904) :
    Calls Tryz.prog 135 #[.slice A xs.length c, .int .i64 k] w fun e' w' => e' = .returned (.int .i64 (k + (ctL ctEntry xs : Nat))) ∧ OwnS kEntry 57 B w' fp (.slice A xs.length c) (mkL mkEntry ctEntry k xs) ∧ Turn fp w w' := by
  have hlen := (ownS_rds ho).1.le63
  go_enter Tryz.func135, Tryz.ntmps135
  go_wp2_with fail
  go_loopw [1, 5] (fun q i W => ∃ m : Nat, m ≤ xs.length ∧ i = .int .i64 m ∧ q = .int .i64 (k + (ctL ctEntry (xs.take m) : Nat)) ∧ OwnS kEntry 57 B W fp (.slice A xs.length c) (mkL mkEntry ctEntry k (xs.take m) ++ xs.drop m) ∧ Turn fp w W) (fun _ i _ => xs.length - (intOf i).toNat)
  case atStart => exact ⟨0, Nat.zero_le _, rfl, by simp [ctL], ho, Turn.refl _ _⟩
  case round =>
    clear ho
    obtain ⟨m, hm, rfl, rfl, ho, ht⟩ := hrel
    by_cases hlt : m < xs.length
    · have hlt' : (m : Int) < (xs.length : Int) := by omega
      have hc1 := ctL_take ctEntry xs m hlt
      have hc2 := ctL_le ctEntry xs (m + 1)
      have hmk := mkL_take mkEntry ctEntry k xs m hlt
      have hin := ho.in
      rw [List.drop_eq_getElem_cons hlt] at ho
      generalize hx : xs[m] = x at ho hc1 hmk
      rw [hc1] at hc2
      have HG := Lib.hid hc1
      generalize hK : k + (ctL ctEntry (xs.take m) : Int) = q at hmk ⊢
      have HQ := Lib.hid hK
      have hq0 : 0 ≤ q := by omega
      have hq1 : q + (ctEntry x : Nat) ≤ 4611686018427387904 := by omega
      have HM := Lib.hid hmk
      clear hK hc1 hx hc2 hb hk hmk
      obtain ⟨gg, fe, f1, f2, c1, ce, c2, rfl, hn, rfl, hc1, hB, hO, wand⟩ := ho.zoom nd
      rw [mkL_length, List.length_take, Nat.min_eq_left hm] at hc1
      clear ho hn
      simp only [show kEntry.sz = 6 from rfl, Nat.mul_one] at hc1
      obtain ⟨rfl, rfl⟩ := kEntry_own hO
      have hf1 : ∀ b, b ∈ f1 ∨ b ∈ f2 → b ≠ gg := fun b hb e => nd_g nd (e ▸ hb)
      have fr : ∀ b, b ∈ f1 ∨ b ∈ f2 → wr.heap[b]? = wr.heap[b]? := fun _ _ => rfl
      have HN := Lib.hid (show c1.length = m * 6 from hc1)
      replace hq1 : q + 1 + 1 + 1 + 1 + 1 + 1 ≤ 4611686018427387904 := by simp only [ctEntry] at hq1; omega
      have q0 := hB.mid hc1 (j := 0) rfl
      have z0 := hB.frozen (m * 6 + 0)
      have q1 := hB.mid hc1 (j := 1) rfl
      have z1 := hB.frozen (m * 6 + 1)
      have q2 := hB.mid hc1 (j := 2) rfl
      have z2 := hB.frozen (m * 6 + 2)
      have q3 := hB.mid hc1 (j := 3) rfl
      have z3 := hB.frozen (m * 6 + 3)
      have q4 := hB.mid hc1 (j := 4) rfl
      have z4 := hB.frozen (m * 6 + 4)
      have q5 := hB.mid hc1 (j := 5) rfl
      have z5 := hB.frozen (m * 6 + 5)
      simp only [Nat.add_zero] at q0 z0
      have HB := Lib.hid hB
      clear hB
      go_wp2_with fail
      have hB := HB.out
      refine ⟨⟨m + 1, hlt, by go_num, congrArg (Value.int .i64) (by have h1 := HG.out; have h2 := HQ.out; simp only [ctEntry] at h1; omega), ?_, ?_⟩, by simp [intOf]; omega⟩
      · (try simp only [Nat.add_assoc, Nat.reduceAdd])
        rw [HM.out]
        have bb := ((((((hB.set hc1 (j := 0) (by simp) (.int .i64 (q))).set hc1 (j := 1) (by simp) (.int .i64 (q + 1))).set hc1 (j := 2) (by simp) (.int .i64 (q + 1 + 1))).set hc1 (j := 3) (by simp) (.int .i64 (q + 1 + 1 + 1))).set hc1 (j := 4) (by simp) (.int .i64 (q + 1 + 1 + 1 + 1))).set hc1 (j := 5) (by simp) (.int .i64 (q + 1 + 1 + 1 + 1 + 1)))
        try simp only [List.set_cons_zero, List.set_cons_succ, Nat.add_zero, Nat.add_assoc, Nat.reduceAdd] at bb
        exact wand _ _ _ (mkEntry q x) bb (kEntry_ownmk (mkEntry q x)) (fun b hb => by have hne := hf1 b hb; repeat (first | (with_reducible exact fr b hb) | rw [set_block _ _ _ _ _ hne]))
      · repeat (first | (with_reducible exact ht) | (with_reducible refine Turn.set ?_ (by simp) _))
    · have hk' : m = xs.length := by omega
      subst hk'
      rw [List.take_length, List.drop_length, List.append_nil] at ho
      have HO := Lib.hid ho
      clear ho
      go_wp2_with fail
      go_ret
      exact ⟨by first | rfl | (rw [List.take_length]; rfl), HO.out, ht⟩

set_option maxRecDepth 100000 in
set_option maxHeartbeats 2000000 in
theorem markDoerS_c (xs : List SDoer) (A : Option Addr) (c : Nat) (k : Int) (B : Nat) (fp : List Nat) (w : World) (ho : OwnS kDoer 104 B w fp (.slice A xs.length c) xs) (nd : fp.Nodup) (hk : 0 ≤ k) (hb : k + (ctL ctDoer xs : Nat) ≤ 4611686018427387904) :
    Calls Tryz.prog 213 #[.slice A xs.length c, .int .i64 k] w fun e' w' => e' = .returned (.int .i64 (k + (ctL ctDoer xs : Nat))) ∧ OwnS kDoer 104 B w' fp (.slice A xs.length c) (mkL mkDoer ctDoer k xs) ∧ Turn fp w w' := by
  have hlen := (ownS_rds ho).1.le63
  go_enter Tryz.func213, Tryz.ntmps213
  go_wp2_with fail
  go_loopw [1, 5] (fun q i W => ∃ m : Nat, m ≤ xs.length ∧ i = .int .i64 m ∧ q = .int .i64 (k + (ctL ctDoer (xs.take m) : Nat)) ∧ OwnS kDoer 104 B W fp (.slice A xs.length c) (mkL mkDoer ctDoer k (xs.take m) ++ xs.drop m) ∧ Turn fp w W) (fun _ i _ => xs.length - (intOf i).toNat)
  case atStart => exact ⟨0, Nat.zero_le _, rfl, by simp [ctL], ho, Turn.refl _ _⟩
  case round =>
    clear ho
    obtain ⟨m, hm, rfl, rfl, ho, ht⟩ := hrel
    by_cases hlt : m < xs.length
    · have hlt' : (m : Int) < (xs.length : Int) := by omega
      have hc1 := ctL_take ctDoer xs m hlt
      have hc2 := ctL_le ctDoer xs (m + 1)
      have hmk := mkL_take mkDoer ctDoer k xs m hlt
      have hin := ho.in
      rw [List.drop_eq_getElem_cons hlt] at ho
      generalize hx : xs[m] = x at ho hc1 hmk
      rw [hc1] at hc2
      have HG := Lib.hid hc1
      generalize hK : k + (ctL ctDoer (xs.take m) : Int) = q at hmk ⊢
      have HQ := Lib.hid hK
      have hq0 : 0 ≤ q := by omega
      have hq1 : q + (ctDoer x : Nat) ≤ 4611686018427387904 := by omega
      have HM := Lib.hid hmk
      clear hK hc1 hx hc2 hb hk hmk
      obtain ⟨gg, fe, f1, f2, c1, ce, c2, rfl, hn, rfl, hc1, hB, hO, wand⟩ := ho.zoom nd
      rw [mkL_length, List.length_take, Nat.min_eq_left hm] at hc1
      clear ho hn
      simp only [show kDoer.sz = 4 from rfl, Nat.mul_one] at hc1
      obtain ⟨A2, c2, fe, rfl, rfl, h2⟩ := kDoer_own hO
      have hf1 : ∀ b, b ∈ f1 ∨ b ∈ f2 → b ≠ gg := fun b hb e => nd_g nd (e ▸ hb)
      have fr : ∀ b, b ∈ f1 ∨ b ∈ f2 → wr.heap[b]? = wr.heap[b]? := fun _ _ => rfl
      have nde := nd_e nd
      have hge : ∀ b, b ∈ (fe : List Nat) → b ≠ gg := fun b hb e => nd_ge nd (e ▸ hb)
      have hfe : ∀ b, b ∈ f1 ∨ b ∈ f2 → b ∉ (fe : List Nat) := fun b hb => nd_fe nd b hb
      have hib : ∀ b, b ∈ f1 ∨ b ∈ f2 → b < wr.heap.size := fun b hb => (hin b (by rcases hb with hb | hb <;> simp [hb])).2
      have HN := Lib.hid (show c1.length = m * 4 from hc1)
      replace hq1 : q + 1 + 1 + ↑(ctL ctEntry x.Log) + 1 ≤ 4611686018427387904 := by simp only [ctDoer] at hq1; omega
      have q0 := hB.mid hc1 (j := 0) rfl
      have z0 := hB.frozen (m * 4 + 0)
      have q1 := hB.mid hc1 (j := 1) rfl
      have z1 := hB.frozen (m * 4 + 1)
      have q2 := hB.mid hc1 (j := 2) rfl
      have z2 := hB.frozen (m * 4 + 2)
      have q3 := hB.mid hc1 (j := 3) rfl
      have z3 := hB.frozen (m * 4 + 3)
      simp only [Nat.add_zero] at q0 z0
      have HB := Lib.hid hB
      clear hB
      go_wp2_with fail
      refine Calls.mono (markEntryS_c x.Log A2 c2 _ B fe _ (OwnS.keep h2 (fun b hb => by have hne : b ≠ gg := hge b (by simp [hb]); repeat (first | (with_reducible rfl) | rw [set_block _ _ _ _ _ hne]))) (by first | exact nde | simp_all) (by omega) (by have hq := hq1; omega)) ?_
      rintro e2 w2 ⟨rfl, o2, t2⟩
      have hB := HB.out
      have bb := ((hB.set hc1 (j := 0) (by simp) (.bool ((q) % 3 == 0))).set hc1 (j := 1) (by simp) (.int .i64 (q + 1)))
      try simp only [List.set_cons_zero, List.set_cons_succ, Nat.add_zero] at bb
      have hB2 := Blk.keep bb (t2.block gg bb.lt (fun hm => hge gg (by simp [hm]) rfl))
      have fr2 : ∀ b, b ∈ f1 ∨ b ∈ f2 → w2.heap[b]? = wr.heap[b]? := fun b hb => (t2.block b (by have := hib b hb; (try simp only [World.setCell, Array.size_modify]); omega) (fun hm => hfe b hb (by simp [hm]))).trans (by have hne := hf1 b hb; repeat (first | (with_reducible exact fr b hb) | rw [set_block _ _ _ _ _ hne]))
      have hib : ∀ b, b ∈ f1 ∨ b ∈ f2 → b < w2.heap.size := fun b hb => Nat.lt_of_lt_of_le (hib b hb) (by have := t2.size; (try simp only [World.setCell, Array.size_modify] at this); exact this)
      have ht := Turn.trans (show Turn _ w _ by repeat (first | (with_reducible exact ht) | (with_reducible refine Turn.set ?_ (by simp) _))) (t2.mono (fq := gg :: (f1 ++ (fe ++ f2))) (by intro b hb; simp [hb]))
      clear bb hB HB q0 z0 q1 z1 q2 z2 q3 z3
      have q0 := hB2.mid hc1 (j := 0) rfl
      have z0 := hB2.frozen (m * 4 + 0)
      have q1 := hB2.mid hc1 (j := 1) rfl
      have z1 := hB2.frozen (m * 4 + 1)
      have q2 := hB2.mid hc1 (j := 2) rfl
      have z2 := hB2.frozen (m * 4 + 2)
      have q3 := hB2.mid hc1 (j := 3) rfl
      have z3 := hB2.frozen (m * 4 + 3)
      simp only [Nat.add_zero] at q0 z0
      have HB := Lib.hid hB2
      clear hB2
      go_wp2_with fail
      have hB := HB.out
      refine ⟨⟨m + 1, hlt, by go_num, congrArg (Value.int .i64) (by have h1 := HG.out; have h2 := HQ.out; simp only [ctDoer] at h1; omega), ?_, ?_⟩, by simp [intOf]; omega⟩
      · (try simp only [Nat.add_assoc, Nat.reduceAdd])
        rw [HM.out]
        have e2 : (mkDoer q x).Log.length = x.Log.length := mkL_length _ _ _ _
        have bb := (hB.set hc1 (j := 3) (by simp) (.int .i64 (q + 1 + 1 + ↑(ctL ctEntry x.Log))))
        try simp only [List.set_cons_zero, List.set_cons_succ, Nat.add_zero, Nat.add_assoc, Nat.reduceAdd] at bb
        exact wand _ _ _ (mkDoer q x) bb (by rw [← e2]; exact kDoer_ownmk (mkDoer q x) (h2 := by rw [e2]; exact OwnS.keep o2 (fun b hb => by have hne : b ≠ gg := hge b (by simp [hb]); repeat (first | (with_reducible rfl) | rw [set_block _ _ _ _ _ hne])))) (fun b hb => by have hne := hf1 b hb; repeat (first | (with_reducible exact fr2 b hb) | rw [set_block _ _ _ _ _ hne]))
      · repeat (first | (with_reducible exact ht) | (with_reducible refine Turn.set ?_ (by simp) _))
    · have hk' : m = xs.length := by omega
      subst hk'
      rw [List.take_length, List.drop_length, List.append_nil] at ho
      have HO := Lib.hid ho
      clear ho
      go_wp2_with fail
      go_ret
      exact ⟨by first | rfl | (rw [List.take_length]; rfl), HO.out, ht⟩

set_option maxRecDepth 100000 in
set_option maxHeartbeats 2000000 in
theorem markMailS_c (xs : List SMail) (A : Option Addr) (c : Nat) (k : Int) (B : Nat) (fp : List Nat) (w : World) (ho : OwnS kMail 59 B w fp (.slice A xs.length c) xs) (nd : fp.Nodup) (hk : 0 ≤ k) (hb : k + (ctL ctMail xs : Nat) ≤ 4611686018427387904) :
    Calls Tryz.prog 134 #[.slice A xs.length c, .int .i64 k] w fun e' w' => e' = .returned (.int .i64 (k + (ctL ctMail xs : Nat))) ∧ OwnS kMail 59 B w' fp (.slice A xs.length c) (mkL mkMail ctMail k xs) ∧ Turn fp w w' := by
  have hlen := (ownS_rds ho).1.le63
  go_enter Tryz.func134, Tryz.ntmps134
  go_wp2_with fail
  go_loopw [1, 5] (fun q i W => ∃ m : Nat, m ≤ xs.length ∧ i = .int .i64 m ∧ q = .int .i64 (k + (ctL ctMail (xs.take m) : Nat)) ∧ OwnS kMail 59 B W fp (.slice A xs.length c) (mkL mkMail ctMail k (xs.take m) ++ xs.drop m) ∧ Turn fp w W) (fun _ i _ => xs.length - (intOf i).toNat)
  case atStart => exact ⟨0, Nat.zero_le _, rfl, by simp [ctL], ho, Turn.refl _ _⟩
  case round =>
    clear ho
    obtain ⟨m, hm, rfl, rfl, ho, ht⟩ := hrel
    by_cases hlt : m < xs.length
    · have hlt' : (m : Int) < (xs.length : Int) := by omega
      have hc1 := ctL_take ctMail xs m hlt
      have hc2 := ctL_le ctMail xs (m + 1)
      have hmk := mkL_take mkMail ctMail k xs m hlt
      have hin := ho.in
      rw [List.drop_eq_getElem_cons hlt] at ho
      generalize hx : xs[m] = x at ho hc1 hmk
      rw [hc1] at hc2
      have HG := Lib.hid hc1
      generalize hK : k + (ctL ctMail (xs.take m) : Int) = q at hmk ⊢
      have HQ := Lib.hid hK
      have hq0 : 0 ≤ q := by omega
      have hq1 : q + (ctMail x : Nat) ≤ 4611686018427387904 := by omega
      have HM := Lib.hid hmk
      clear hK hc1 hx hc2 hb hk hmk
      obtain ⟨gg, fe, f1, f2, c1, ce, c2, rfl, hn, rfl, hc1, hB, hO, wand⟩ := ho.zoom nd
      rw [mkL_length, List.length_take, Nat.min_eq_left hm] at hc1
      clear ho hn
      simp only [show kMail.sz = 15 from rfl, Nat.mul_one] at hc1
      obtain ⟨A13, c13, fe, rfl, rfl, h13⟩ := kMail_own hO
      have hf1 : ∀ b, b ∈ f1 ∨ b ∈ f2 → b ≠ gg := fun b hb e => nd_g nd (e ▸ hb)
      have fr : ∀ b, b ∈ f1 ∨ b ∈ f2 → wr.heap[b]? = wr.heap[b]? := fun _ _ => rfl
      have nde := nd_e nd
      have hge : ∀ b, b ∈ (fe : List Nat) → b ≠ gg := fun b hb e => nd_ge nd (e ▸ hb)
      have hfe : ∀ b, b ∈ f1 ∨ b ∈ f2 → b ∉ (fe : List Nat) := fun b hb => nd_fe nd b hb
      have hib : ∀ b, b ∈ f1 ∨ b ∈ f2 → b < wr.heap.size := fun b hb => (hin b (by rcases hb with hb | hb <;> simp [hb])).2
      have HN := Lib.hid (show c1.length = m * 15 from hc1)
      replace hq1 : q + 1 + 1 + 1 + 1 + 1 + 1 + 1 + 1 + 1 + 1 + 1 + 1 + 1 + ↑(ctL ctEntry x.Log) + 1 ≤ 4611686018427387904 := by simp only [ctMail] at hq1; omega
      have q0 := hB.mid hc1 (j := 0) rfl
      have z0 := hB.frozen (m * 15 + 0)
      have q1 := hB.mid hc1 (j := 1) rfl
      have z1 := hB.frozen (m * 15 + 1)
      have q2 := hB.mid hc1 (j := 2) rfl
      have z2 := hB.frozen (m * 15 + 2)
      have q3 := hB.mid hc1 (j := 3) rfl
      have z3 := hB.frozen (m * 15 + 3)
      have q4 := hB.mid hc1 (j := 4) rfl
      have z4 := hB.frozen (m * 15 + 4)
      have q5 := hB.mid hc1 (j := 5) rfl
      have z5 := hB.frozen (m * 15 + 5)
      have q6 := hB.mid hc1 (j := 6) rfl
      have z6 := hB.frozen (m * 15 + 6)
      have q7 := hB.mid hc1 (j := 7) rfl
      have z7 := hB.frozen (m * 15 + 7)
      have q8 := hB.mid hc1 (j := 8) rfl
      have z8 := hB.frozen (m * 15 + 8)
      have q9 := hB.mid hc1 (j := 9) rfl
      have z9 := hB.frozen (m * 15 + 9)
      have q10 := hB.mid hc1 (j := 10) rfl
      have z10 := hB.frozen (m * 15 + 10)
      have q11 := hB.mid hc1 (j := 11) rfl
      have z11 := hB.frozen (m * 15 + 11)
      have q12 := hB.mid hc1 (j := 12) rfl
      have z12 := hB.frozen (m * 15 + 12)
      have q13 := hB.mid hc1 (j := 13) rfl
      have z13 := hB.frozen (m * 15 + 13)
      have q14 := hB.mid hc1 (j := 14) rfl
      have z14 := hB.frozen (m * 15 + 14)
      simp only [Nat.add_zero] at q0 z0
      have HB := Lib.hid hB
      clear hB
      go_wp2_with fail
      refine Calls.mono (markEntryS_c x.Log A13 c13 _ B fe _ (OwnS.keep h13 (fun b hb => by have hne : b ≠ gg := hge b (by simp [hb]); repeat (first | (with_reducible rfl) | rw [set_block _ _ _ _ _ hne]))) (by first | exact nde | simp_all) (by omega) (by have hq := hq1; omega)) ?_
      rintro e13 w13 ⟨rfl, o13, t13⟩
      have hB := HB.out
      have bb := (((((((((((((hB.set hc1 (j := 0) (by simp) (.int .i64 (q))).set hc1 (j := 1) (by simp) (.int .i64 (q + 1))).set hc1 (j := 2) (by simp) (.int .i64 (q + 1 + 1))).set hc1 (j := 3) (by simp) (.int .i64 (q + 1 + 1 + 1))).set hc1 (j := 4) (by simp) (.int .i64 (q + 1 + 1 + 1 + 1))).set hc1 (j := 5) (by simp) (.bool ((q + 1 + 1 + 1 + 1 + 1) % 3 == 0))).set hc1 (j := 6) (by simp) (.int .i64 (q + 1 + 1 + 1 + 1 + 1 + 1))).set hc1 (j := 7) (by simp) (.int .i64 (q + 1 + 1 + 1 + 1 + 1 + 1 + 1))).set hc1 (j := 8) (by simp) (.int .i64 (q + 1 + 1 + 1 + 1 + 1 + 1 + 1 + 1))).set hc1 (j := 9) (by simp) (.int .i64 (q + 1 + 1 + 1 + 1 + 1 + 1 + 1 + 1 + 1))).set hc1 (j := 10) (by simp) (.int .i64 (q + 1 + 1 + 1 + 1 + 1 + 1 + 1 + 1 + 1 + 1))).set hc1 (j := 11) (by simp) (.int .i64 (q + 1 + 1 + 1 + 1 + 1 + 1 + 1 + 1 + 1 + 1 + 1))).set hc1 (j := 12) (by simp) (.int .i64 (q + 1 + 1 + 1 + 1 + 1 + 1 + 1 + 1 + 1 + 1 + 1 + 1)))
      try simp only [List.set_cons_zero, List.set_cons_succ, Nat.add_zero] at bb
      have hB13 := Blk.keep bb (t13.block gg bb.lt (fun hm => hge gg (by simp [hm]) rfl))
      have fr13 : ∀ b, b ∈ f1 ∨ b ∈ f2 → w13.heap[b]? = wr.heap[b]? := fun b hb => (t13.block b (by have := hib b hb; (try simp only [World.setCell, Array.size_modify]); omega) (fun hm => hfe b hb (by simp [hm]))).trans (by have hne := hf1 b hb; repeat (first | (with_reducible exact fr b hb) | rw [set_block _ _ _ _ _ hne]))
      have hib : ∀ b, b ∈ f1 ∨ b ∈ f2 → b < w13.heap.size := fun b hb => Nat.lt_of_lt_of_le (hib b hb) (by have := t13.size; (try simp only [World.setCell, Array.size_modify] at this); exact this)
      have ht := Turn.trans (show Turn _ w _ by repeat (first | (with_reducible exact ht) | (with_reducible refine Turn.set ?_ (by simp) _))) (t13.mono (fq := gg :: (f1 ++ (fe ++ f2))) (by intro b hb; simp [hb]))
      clear bb hB HB q0 z0 q1 z1 q2 z2 q3 z3 q4 z4 q5 z5 q6 z6 q7 z7 q8 z8 q9 z9 q10 z10 q11 z11 q12 z12 q13 z13 q14 z14
      have q0 := hB13.mid hc1 (j := 0) rfl
      have z0 := hB13.frozen (m * 15 + 0)
      have q1 := hB13.mid hc1 (j := 1) rfl
      have z1 := hB13.frozen (m * 15 + 1)
      have q2 := hB13.mid hc1 (j := 2) rfl
      have z2 := hB13.frozen (m * 15 + 2)
      have q3 := hB13.mid hc1 (j := 3) rfl
      have z3 := hB13.frozen (m * 15 + 3)
      have q4 := hB13.mid hc1 (j := 4) rfl
      have z4 := hB13.frozen (m * 15 + 4)
      have q5 := hB13.mid hc1 (j := 5) rfl
      have z5 := hB13.frozen (m * 15 + 5)
      have q6 := hB13.mid hc1 (j := 6) rfl
      have z6 := hB13.frozen (m * 15 + 6)
      have q7 := hB13.mid hc1 (j := 7) rfl
      have z7 := hB13.frozen (m * 15 + 7)
      have q8 := hB13.mid hc1 (j := 8) rfl
      have z8 := hB13.frozen (m * 15 + 8)
      have q9 := hB13.mid hc1 (j := 9) rfl
      have z9 := hB13.frozen (m * 15 + 9)
      have q10 := hB13.mid hc1 (j := 10) rfl
      have z10 := hB13.frozen (m * 15 + 10)
      have q11 := hB13.mid hc1 (j := 11) rfl
      have z11 := hB13.frozen (m * 15 + 11)
      have q12 := hB13.mid hc1 (j := 12) rfl
      have z12 := hB13.frozen (m * 15 + 12)
      have q13 := hB13.mid hc1 (j := 13) rfl
      have z13 := hB13.frozen (m * 15 + 13)
      have q14 := hB13.mid hc1 (j := 14) rfl
      have z14 := hB13.frozen (m * 15 + 14)
      simp only [Nat.add_zero] at q0 z0
      have HB := Lib.hid hB13
      clear hB13
      go_wp2_with fail
      have hB := HB.out
      refine ⟨⟨m + 1, hlt, by go_num, congrArg (Value.int .i64) (by have h1 := HG.out; have h2 := HQ.out; simp only [ctMail] at h1; omega), ?_, ?_⟩, by simp [intOf]; omega⟩
      · (try simp only [Nat.add_assoc, Nat.reduceAdd])
        rw [HM.out]
        have e13 : (mkMail q x).Log.length = x.Log.length := mkL_length _ _ _ _
        have bb := (hB.set hc1 (j := 14) (by simp) (.int .i64 (q + 1 + 1 + 1 + 1 + 1 + 1 + 1 + 1 + 1 + 1 + 1 + 1 + 1 + ↑(ctL ctEntry x.Log))))
        try simp only [List.set_cons_zero, List.set_cons_succ, Nat.add_zero, Nat.add_assoc, Nat.reduceAdd] at bb
        exact wand _ _ _ (mkMail q x) bb (by rw [← e13]; exact kMail_ownmk (mkMail q x) (h13 := by rw [e13]; exact OwnS.keep o13 (fun b hb => by have hne : b ≠ gg := hge b (by simp [hb]); repeat (first | (with_reducible rfl) | rw [set_block _ _ _ _ _ hne])))) (fun b hb => by have hne := hf1 b hb; repeat (first | (with_reducible exact fr13 b hb) | rw [set_block _ _ _ _ _ hne]))
      · repeat (first | (with_reducible exact ht) | (with_reducible refine Turn.set ?_ (by simp) _))
    · have hk' : m = xs.length := by omega
      subst hk'
      rw [List.take_length, List.drop_length, List.append_nil] at ho
      have HO := Lib.hid ho
      clear ho
      go_wp2_with fail
      go_ret
      exact ⟨by first | rfl | (rw [List.take_length]; rfl), HO.out, ht⟩

set_option maxRecDepth 100000 in
set_option maxHeartbeats 2000000 in
theorem markReplicaS_c (xs : List SReplica) (A : Option Addr) (c : Nat) (k : Int) (B : Nat) (fp : List Nat) (w : World) (ho : OwnS kReplica 29 B w fp (.slice A xs.length c) xs) (nd : fp.Nodup) (hk : 0 ≤ k) (hb : k + (ctL ctReplica xs : Nat) ≤ 4611686018427387904) :
    Calls Tryz.prog 133 #[.slice A xs.length c, .int .i64 k] w fun e' w' => e' = .returned (.int .i64 (k + (ctL ctReplica xs : Nat))) ∧ OwnS kReplica 29 B w' fp (.slice A xs.length c) (mkL mkReplica ctReplica k xs) ∧ Turn fp w w' := by
  have hlen := (ownS_rds ho).1.le63
  go_enter Tryz.func133, Tryz.ntmps133
  go_wp2_with fail
  go_loopw [1, 5] (fun q i W => ∃ m : Nat, m ≤ xs.length ∧ i = .int .i64 m ∧ q = .int .i64 (k + (ctL ctReplica (xs.take m) : Nat)) ∧ OwnS kReplica 29 B W fp (.slice A xs.length c) (mkL mkReplica ctReplica k (xs.take m) ++ xs.drop m) ∧ Turn fp w W) (fun _ i _ => xs.length - (intOf i).toNat)
  case atStart => exact ⟨0, Nat.zero_le _, rfl, by simp [ctL], ho, Turn.refl _ _⟩
  case round =>
    clear ho
    obtain ⟨m, hm, rfl, rfl, ho, ht⟩ := hrel
    by_cases hlt : m < xs.length
    · have hlt' : (m : Int) < (xs.length : Int) := by omega
      have hc1 := ctL_take ctReplica xs m hlt
      have hc2 := ctL_le ctReplica xs (m + 1)
      have hmk := mkL_take mkReplica ctReplica k xs m hlt
      have hin := ho.in
      rw [List.drop_eq_getElem_cons hlt] at ho
      generalize hx : xs[m] = x at ho hc1 hmk
      rw [hc1] at hc2
      have HG := Lib.hid hc1
      generalize hK : k + (ctL ctReplica (xs.take m) : Int) = q at hmk ⊢
      have HQ := Lib.hid hK
      have hq0 : 0 ≤ q := by omega
      have hq1 : q + (ctReplica x : Nat) ≤ 4611686018427387904 := by omega
      have HM := Lib.hid hmk
      clear hK hc1 hx hc2 hb hk hmk
      obtain ⟨gg, fe, f1, f2, c1, ce, c2, rfl, hn, rfl, hc1, hB, hO, wand⟩ := ho.zoom nd
      rw [mkL_length, List.length_take, Nat.min_eq_left hm] at hc1
      clear ho hn
      simp only [show kReplica.sz = 10 from rfl, Nat.mul_one] at hc1
      obtain ⟨A5, c5, A7, c7, A8, c8, A9, c9, l5, l7, l8, l9, rfl, rfl, h5, h7, h8, h9⟩ := kReplica_own hO
      have hf1 : ∀ b, b ∈ f1 ∨ b ∈ f2 → b ≠ gg := fun b hb e => nd_g nd (e ▸ hb)
      have fr : ∀ b, b ∈ f1 ∨ b ∈ f2 → wr.heap[b]? = wr.heap[b]? := fun _ _ => rfl
      have nde := nd_e nd
      have hge : ∀ b, b ∈ ((l5 ++ (l7 ++ (l8 ++ l9))) : List Nat) → b ≠ gg := fun b hb e => nd_ge nd (e ▸ hb)
      have hfe : ∀ b, b ∈ f1 ∨ b ∈ f2 → b ∉ ((l5 ++ (l7 ++ (l8 ++ l9))) : List Nat) := fun b hb => nd_fe nd b hb
      have dis := dis4 nde
      clear nde
      simp only [List.mem_append, not_or] at hge hfe
      have hib : ∀ b, b ∈ f1 ∨ b ∈ f2 → b < wr.heap.size := fun b hb => (hin b (by rcases hb with hb | hb <;> simp [hb])).2
      have HN := Lib.hid (show c1.length = m * 10 from hc1)
      replace hq1 : q + 1 + 1 + 1 + 1 + 1 + ↑(ctL ctEntry x.Log) + 1 + ↑(ctL ctI x.Oks) + ↑(ctL ctB x.Asks) + ↑(ctL ctDoer x.Doers) ≤ 4611686018427387904 := by simp only [ctReplica] at hq1; omega
      have q0 := hB.mid hc1 (j := 0) rfl
      have z0 := hB.frozen (m * 10 + 0)
      have q1 := hB.mid hc1 (j := 1) rfl
      have z1 := hB.frozen (m * 10 + 1)
      have q2 := hB.mid hc1 (j := 2) rfl
      have z2 := hB.frozen (m * 10 + 2)
      have q3 := hB.mid hc1 (j := 3) rfl
      have z3 := hB.frozen (m * 10 + 3)
      have q4 := hB.mid hc1 (j := 4) rfl
      have z4 := hB.frozen (m * 10 + 4)
      have q5 := hB.mid hc1 (j := 5) rfl
      have z5 := hB.frozen (m * 10 + 5)
      have q6 := hB.mid hc1 (j := 6) rfl
      have z6 := hB.frozen (m * 10 + 6)
      have q7 := hB.mid hc1 (j := 7) rfl
      have z7 := hB.frozen (m * 10 + 7)
      have q8 := hB.mid hc1 (j := 8) rfl
      have z8 := hB.frozen (m * 10 + 8)
      have q9 := hB.mid hc1 (j := 9) rfl
      have z9 := hB.frozen (m * 10 + 9)
      simp only [Nat.add_zero] at q0 z0
      have HB := Lib.hid hB
      clear hB
      go_wp2_with fail
      refine Calls.mono (markEntryS_c x.Log A5 c5 _ B l5 _ (OwnS.keep h5 (fun b hb => by have hne : b ≠ gg := hge b (by simp [hb]); repeat (first | (with_reducible rfl) | rw [set_block _ _ _ _ _ hne]))) dis.n0 (by omega) (by have hq := hq1; omega)) ?_
      rintro e5 w5 ⟨rfl, o5, t5⟩
      have hB := HB.out
      have bb := (((((hB.set hc1 (j := 0) (by simp) (.int .i64 (q))).set hc1 (j := 1) (by simp) (.int .i64 (q + 1))).set hc1 (j := 2) (by simp) (.int .i64 (q + 1 + 1))).set hc1 (j := 3) (by simp) (.bool ((q + 1 + 1 + 1) % 3 == 0))).set hc1 (j := 4) (by simp) (.int .i64 (q + 1 + 1 + 1 + 1)))
      try simp only [List.set_cons_zero, List.set_cons_succ, Nat.add_zero] at bb
      have hB5 := Blk.keep bb (t5.block gg bb.lt (fun hm => hge gg (by simp [hm]) rfl))
      have fr5 : ∀ b, b ∈ f1 ∨ b ∈ f2 → w5.heap[b]? = wr.heap[b]? := fun b hb => (t5.block b (by have := hib b hb; (try simp only [World.setCell, Array.size_modify]); omega) (fun hm => (hfe b hb).1 hm)).trans (by have hne := hf1 b hb; repeat (first | (with_reducible exact fr b hb) | rw [set_block _ _ _ _ _ hne]))
      have hib : ∀ b, b ∈ f1 ∨ b ∈ f2 → b < w5.heap.size := fun b hb => Nat.lt_of_lt_of_le (hib b hb) (by have := t5.size; (try simp only [World.setCell, Array.size_modify] at this); exact this)
      have ht := Turn.trans (show Turn _ w _ by repeat (first | (with_reducible exact ht) | (with_reducible refine Turn.set ?_ (by simp) _))) (t5.mono (fq := gg :: (f1 ++ ((l5 ++ (l7 ++ (l8 ++ l9))) ++ f2))) (by intro b hb; simp [hb]))
      have x7_5 := OwnS.turn (OwnS.keep h7 (fun b hb => by have hne : b ≠ gg := hge b (by simp [hb]); repeat (first | (with_reducible rfl) | rw [set_block _ _ _ _ _ hne]))) t5 (fun b hb hm => dis.d01 b hm hb)
      have x8_5 := OwnS.turn (OwnS.keep h8 (fun b hb => by have hne : b ≠ gg := hge b (by simp [hb]); repeat (first | (with_reducible rfl) | rw [set_block _ _ _ _ _ hne]))) t5 (fun b hb hm => dis.d02 b hm hb)
      have x9_5 := OwnS.turn (OwnS.keep h9 (fun b hb => by have hne : b ≠ gg := hge b (by simp [hb]); repeat (first | (with_reducible rfl) | rw [set_block _ _ _ _ _ hne]))) t5 (fun b hb hm => dis.d03 b hm hb)
      clear bb hB HB q0 z0 q1 z1 q2 z2 q3 z3 q4 z4 q5 z5 q6 z6 q7 z7 q8 z8 q9 z9
      have q0 := hB5.mid hc1 (j := 0) rfl
      have z0 := hB5.frozen (m * 10 + 0)
      have q1 := hB5.mid hc1 (j := 1) rfl
      have z1 := hB5.frozen (m * 10 + 1)
      have q2 := hB5.mid hc1 (j := 2) rfl
      have z2 := hB5.frozen (m * 10 + 2)
      have q3 := hB5.mid hc1 (j := 3) rfl
      have z3 := hB5.frozen (m * 10 + 3)
      have q4 := hB5.mid hc1 (j := 4) rfl
      have z4 := hB5.frozen (m * 10 + 4)
      have q5 := hB5.mid hc1 (j := 5) rfl
      have z5 := hB5.frozen (m * 10 + 5)
      have q6 := hB5.mid hc1 (j := 6) rfl
      have z6 := hB5.frozen (m * 10 + 6)
      have q7 := hB5.mid hc1 (j := 7) rfl
      have z7 := hB5.frozen (m * 10 + 7)
      have q8 := hB5.mid hc1 (j := 8) rfl
      have z8 := hB5.frozen (m * 10 + 8)
      have q9 := hB5.mid hc1 (j := 9) rfl
      have z9 := hB5.frozen (m * 10 + 9)
      simp only [Nat.add_zero] at q0 z0
      have HB := Lib.hid hB5
      clear hB5
      go_wp2_with fail
      refine Calls.mono (markInt64S_c x.Oks A7 c7 _ B l7 _ (OwnS.keep x7_5 (fun b hb => by have hne : b ≠ gg := hge b (by simp [hb]); repeat (first | (with_reducible rfl) | rw [set_block _ _ _ _ _ hne]))) dis.n1 (by omega) (by have hq := hq1; omega)) ?_
      rintro e7 w7 ⟨rfl, o7, t7⟩
      have hB := HB.out
      have bb := (hB.set hc1 (j := 6) (by simp) (.int .i64 (q + 1 + 1 + 1 + 1 + 1 + ↑(ctL ctEntry x.Log))))
      try simp only [List.set_cons_zero, List.set_cons_succ, Nat.add_zero] at bb
      have hB7 := Blk.keep bb (t7.block gg bb.lt (fun hm => hge gg (by simp [hm]) rfl))
      have fr7 : ∀ b, b ∈ f1 ∨ b ∈ f2 → w7.heap[b]? = wr.heap[b]? := fun b hb => (t7.block b (by have := hib b hb; (try simp only [World.setCell, Array.size_modify]); omega) (fun hm => (hfe b hb).2.1 hm)).trans (by have hne := hf1 b hb; repeat (first | (with_reducible exact fr5 b hb) | rw [set_block _ _ _ _ _ hne]))
      have hib : ∀ b, b ∈ f1 ∨ b ∈ f2 → b < w7.heap.size := fun b hb => Nat.lt_of_lt_of_le (hib b hb) (by have := t7.size; (try simp only [World.setCell, Array.size_modify] at this); exact this)
      have ht := Turn.trans (show Turn _ w _ by repeat (first | (with_reducible exact ht) | (with_reducible refine Turn.set ?_ (by simp) _))) (t7.mono (fq := gg :: (f1 ++ ((l5 ++ (l7 ++ (l8 ++ l9))) ++ f2))) (by intro b hb; simp [hb]))
      have x5_7 := OwnS.turn (OwnS.keep o5 (fun b hb => by have hne : b ≠ gg := hge b (by simp [hb]); repeat (first | (with_reducible rfl) | rw [set_block _ _ _ _ _ hne]))) t7 (fun b hb hm => dis.d01 b hb hm)
      have x8_7 := OwnS.turn (OwnS.keep x8_5 (fun b hb => by have hne : b ≠ gg := hge b (by simp [hb]); repeat (first | (with_reducible rfl) | rw [set_block _ _ _ _ _ hne]))) t7 (fun b hb hm => dis.d12 b hm hb)
      have x9_7 := OwnS.turn (OwnS.keep x9_5 (fun b hb => by have hne : b ≠ gg := hge b (by simp [hb]); repeat (first | (with_reducible rfl) | rw [set_block _ _ _ _ _ hne]))) t7 (fun b hb hm => dis.d13 b hm hb)
      clear bb hB HB q0 z0 q1 z1 q2 z2 q3 z3 q4 z4 q5 z5 q6 z6 q7 z7 q8 z8 q9 z9
      have q0 := hB7.mid hc1 (j := 0) rfl
      have z0 := hB7.frozen (m * 10 + 0)
      have q1 := hB7.mid hc1 (j := 1) rfl
      have z1 := hB7.frozen (m * 10 + 1)
      have q2 := hB7.mid hc1 (j := 2) rfl
      have z2 := hB7.frozen (m * 10 + 2)
      have q3 := hB7.mid hc1 (j := 3) rfl
      have z3 := hB7.frozen (m * 10 + 3)
      have q4 := hB7.mid hc1 (j := 4) rfl
      have z4 := hB7.frozen (m * 10 + 4)
      have q5 := hB7.mid hc1 (j := 5) rfl
      have z5 := hB7.frozen (m * 10 + 5)
      have q6 := hB7.mid hc1 (j := 6) rfl
      have z6 := hB7.frozen (m * 10 + 6)
      have q7 := hB7.mid hc1 (j := 7) rfl
      have z7 := hB7.frozen (m * 10 + 7)
      have q8 := hB7.mid hc1 (j := 8) rfl
      have z8 := hB7.frozen (m * 10 + 8)
      have q9 := hB7.mid hc1 (j := 9) rfl
      have z9 := hB7.frozen (m * 10 + 9)
      simp only [Nat.add_zero] at q0 z0
      have HB := Lib.hid hB7
      clear hB7
      go_wp2_with fail
      refine Calls.mono (markBoolS_c x.Asks A8 c8 _ B l8 _ (OwnS.keep x8_7 (fun b hb => by have hne : b ≠ gg := hge b (by simp [hb]); repeat (first | (with_reducible rfl) | rw [set_block _ _ _ _ _ hne]))) dis.n2 (by omega) (by have hq := hq1; omega)) ?_
      rintro e8 w8 ⟨rfl, o8, t8⟩
      have hB := HB.out
      have bb := hB
      try simp only [List.set_cons_zero, List.set_cons_succ, Nat.add_zero] at bb
      have hB8 := Blk.keep bb (t8.block gg bb.lt (fun hm => hge gg (by simp [hm]) rfl))
      have fr8 : ∀ b, b ∈ f1 ∨ b ∈ f2 → w8.heap[b]? = wr.heap[b]? := fun b hb => (t8.block b (by have := hib b hb; (try simp only [World.setCell, Array.size_modify]); omega) (fun hm => (hfe b hb).2.2.1 hm)).trans (by have hne := hf1 b hb; repeat (first | (with_reducible exact fr7 b hb) | rw [set_block _ _ _ _ _ hne]))
      have hib : ∀ b, b ∈ f1 ∨ b ∈ f2 → b < w8.heap.size := fun b hb => Nat.lt_of_lt_of_le (hib b hb) (by have := t8.size; (try simp only [World.setCell, Array.size_modify] at this); exact this)
      have ht := Turn.trans (show Turn _ w _ by repeat (first | (with_reducible exact ht) | (with_reducible refine Turn.set ?_ (by simp) _))) (t8.mono (fq := gg :: (f1 ++ ((l5 ++ (l7 ++ (l8 ++ l9))) ++ f2))) (by intro b hb; simp [hb]))
      have x5_8 := OwnS.turn (OwnS.keep x5_7 (fun b hb => by have hne : b ≠ gg := hge b (by simp [hb]); repeat (first | (with_reducible rfl) | rw [set_block _ _ _ _ _ hne]))) t8 (fun b hb hm => dis.d02 b hb hm)
      have x7_8 := OwnS.turn (OwnS.keep o7 (fun b hb => by have hne : b ≠ gg := hge b (by simp [hb]); repeat (first | (with_reducible rfl) | rw [set_block _ _ _ _ _ hne]))) t8 (fun b hb hm => dis.d12 b hb hm)
      have x9_8 := OwnS.turn (OwnS.keep x9_7 (fun b hb => by have hne : b ≠ gg := hge b (by simp [hb]); repeat (first | (with_reducible rfl) | rw [set_block _ _ _ _ _ hne]))) t8 (fun b hb hm => dis.d23 b hm hb)
      clear bb hB HB q0 z0 q1 z1 q2 z2 q3 z3 q4 z4 q5 z5 q6 z6 q7 z7 q8 z8 q9 z9
      have q0 := hB8.mid hc1 (j := 0) rfl
      have z0 := hB8.frozen (m * 10 + 0)
      have q1 := hB8.mid hc1 (j := 1) rfl
      have z1 := hB8.frozen (m * 10 + 1)
      have q2 := hB8.mid hc1 (j := 2) rfl
      have z2 := hB8.frozen (m * 10 + 2)
      have q3 := hB8.mid hc1 (j := 3) rfl
      have z3 := hB8.frozen (m * 10 + 3)
      have q4 := hB8.mid hc1 (j := 4) rfl
      have z4 := hB8.frozen (m * 10 + 4)
      have q5 := hB8.mid hc1 (j := 5) rfl
      have z5 := hB8.frozen (m * 10 + 5)
      have q6 := hB8.mid hc1 (j := 6) rfl
      have z6 := hB8.frozen (m * 10 + 6)
      have q7 := hB8.mid hc1 (j := 7) rfl
      have z7 := hB8.frozen (m * 10 + 7)
      have q8 := hB8.mid hc1 (j := 8) rfl
      have z8 := hB8.frozen (m * 10 + 8)
      have q9 := hB8.mid hc1 (j := 9) rfl
      have z9 := hB8.frozen (m * 10 + 9)
      simp only [Nat.add_zero] at q0 z0
      have HB := Lib.hid hB8
      clear hB8
      go_wp2_with fail
      refine Calls.mono (markDoerS_c x.Doers A9 c9 _ B l9 _ (OwnS.keep x9_8 (fun b hb => by have hne : b ≠ gg := hge b (by simp [hb]); repeat (first | (with_reducible rfl) | rw [set_block _ _ _ _ _ hne]))) dis.n3 (by omega) (by have hq := hq1; omega)) ?_
      rintro e9 w9 ⟨rfl, o9, t9⟩
      have hB := HB.out
      have bb := hB
      try simp only [List.set_cons_zero, List.set_cons_succ, Nat.add_zero] at bb
      have hB9 := Blk.keep bb (t9.block gg bb.lt (fun hm => hge gg (by simp [hm]) rfl))
      have fr9 : ∀ b, b ∈ f1 ∨ b ∈ f2 → w9.heap[b]? = wr.heap[b]? := fun b hb => (t9.block b (by have := hib b hb; (try simp only [World.setCell, Array.size_modify]); omega) (fun hm => (hfe b hb).2.2.2 hm)).trans (by have hne := hf1 b hb; repeat (first | (with_reducible exact fr8 b hb) | rw [set_block _ _ _ _ _ hne]))
      have hib : ∀ b, b ∈ f1 ∨ b ∈ f2 → b < w9.heap.size := fun b hb => Nat.lt_of_lt_of_le (hib b hb) (by have := t9.size; (try simp only [World.setCell, Array.size_modify] at this); exact this)
      have ht := Turn.trans (show Turn _ w _ by repeat (first | (with_reducible exact ht) | (with_reducible refine Turn.set ?_ (by simp) _))) (t9.mono (fq := gg :: (f1 ++ ((l5 ++ (l7 ++ (l8 ++ l9))) ++ f2))) (by intro b hb; simp [hb]))
      have x5_9 := OwnS.turn (OwnS.keep x5_8 (fun b hb => by have hne : b ≠ gg := hge b (by simp [hb]); repeat (first | (with_reducible rfl) | rw [set_block _ _ _ _ _ hne]))) t9 (fun b hb hm => dis.d03 b hb hm)
      have x7_9 := OwnS.turn (OwnS.keep x7_8 (fun b hb => by have hne : b ≠ gg := hge b (by simp [hb]); repeat (first | (with_reducible rfl) | rw [set_block _ _ _ _ _ hne]))) t9 (fun b hb hm => dis.d13 b hb hm)
      have x8_9 := OwnS.turn (OwnS.keep o8 (fun b hb => by have hne : b ≠ gg := hge b (by simp [hb]); repeat (first | (with_reducible rfl) | rw [set_block _ _ _ _ _ hne]))) t9 (fun b hb hm => dis.d23 b hb hm)
      clear bb hB HB q0 z0 q1 z1 q2 z2 q3 z3 q4 z4 q5 z5 q6 z6 q7 z7 q8 z8 q9 z9
      have q0 := hB9.mid hc1 (j := 0) rfl
      have z0 := hB9.frozen (m * 10 + 0)
      have q1 := hB9.mid hc1 (j := 1) rfl
      have z1 := hB9.frozen (m * 10 + 1)
      have q2 := hB9.mid hc1 (j := 2) rfl
      have z2 := hB9.frozen (m * 10 + 2)
      have q3 := hB9.mid hc1 (j := 3) rfl
      have z3 := hB9.frozen (m * 10 + 3)
      have q4 := hB9.mid hc1 (j := 4) rfl
      have z4 := hB9.frozen (m * 10 + 4)
      have q5 := hB9.mid hc1 (j := 5) rfl
      have z5 := hB9.frozen (m * 10 + 5)
      have q6 := hB9.mid hc1 (j := 6) rfl
      have z6 := hB9.frozen (m * 10 + 6)
      have q7 := hB9.mid hc1 (j := 7) rfl
      have z7 := hB9.frozen (m * 10 + 7)
      have q8 := hB9.mid hc1 (j := 8) rfl
      have z8 := hB9.frozen (m * 10 + 8)
      have q9 := hB9.mid hc1 (j := 9) rfl
      have z9 := hB9.frozen (m * 10 + 9)
      simp only [Nat.add_zero] at q0 z0
      have HB := Lib.hid hB9
      clear hB9
      go_wp2_with fail
      have hB := HB.out
      refine ⟨⟨m + 1, hlt, by go_num, congrArg (Value.int .i64) (by have h1 := HG.out; have h2 := HQ.out; simp only [ctReplica] at h1; omega), ?_, ?_⟩, by simp [intOf]; omega⟩
      · (try simp only [Nat.add_assoc, Nat.reduceAdd])
        rw [HM.out]
        have e5 : (mkReplica q x).Log.length = x.Log.length := mkL_length _ _ _ _
        have e7 : (mkReplica q x).Oks.length = x.Oks.length := mkL_length _ _ _ _
        have e8 : (mkReplica q x).Asks.length = x.Asks.length := mkL_length _ _ _ _
        have e9 : (mkReplica q x).Doers.length = x.Doers.length := mkL_length _ _ _ _
        have bb := hB
        try simp only [List.set_cons_zero, List.set_cons_succ, Nat.add_zero, Nat.add_assoc, Nat.reduceAdd] at bb
        exact wand _ _ _ (mkReplica q x) bb (by rw [← e5, ← e7, ← e8, ← e9]; exact kReplica_ownmk (mkReplica q x) (h5 := by rw [e5]; exact OwnS.keep x5_9 (fun b hb => by have hne : b ≠ gg := hge b (by simp [hb]); repeat (first | (with_reducible rfl) | rw [set_block _ _ _ _ _ hne]))) (h7 := by rw [e7]; exact OwnS.keep x7_9 (fun b hb => by have hne : b ≠ gg := hge b (by simp [hb]); repeat (first | (with_reducible rfl) | rw [set_block _ _ _ _ _ hne]))) (h8 := by rw [e8]; exact OwnS.keep x8_9 (fun b hb => by have hne : b ≠ gg := hge b (by simp [hb]); repeat (first | (with_reducible rfl) | rw [set_block _ _ _ _ _ hne]))) (h9 := by rw [e9]; exact OwnS.keep o9 (fun b hb => by have hne : b ≠ gg := hge b (by simp [hb]); repeat (first | (with_reducible rfl) | rw [set_block _ _ _ _ _ hne])))) (fun b hb => by have hne := hf1 b hb; repeat (first | (with_reducible exact fr9 b hb) | rw [set_block _ _ _ _ _ hne]))
      · repeat (first | (with_reducible exact ht) | (with_reducible refine Turn.set ?_ (by simp) _))
    · have hk' : m = xs.length := by omega
      subst hk'
      rw [List.take_length, List.drop_length, List.append_nil] at ho
      have HO := Lib.hid ho
      clear ho
      go_wp2_with fail
      go_ret
      exact ⟨by first | rfl | (rw [List.take_length]; rfl), HO.out, ht⟩

end Go.Proofs.YtoohhkmlgmeolaaGreat

/- Marks of whole values; marks that are held (written by gM.py, own work). -/
set_option linter.unusedVariables false
set_option linter.unusedSimpArgs false
namespace Go.Proofs.YtoohhkmlgmeolaaGreat
open Go Go.RowKit Mk

set_option maxRecDepth 100000 in
set_option maxHeartbeats 2000000 in
theorem heldInt64S_c (xs : List Int) (A : Option Addr) (c : Nat) (k : Int) (w : World) (h : RdS kInt w A c (mkL mkI ctI k xs)) (hk : 0 ≤ k) (hb : k + (ctL ctI xs : Nat) ≤ 4611686018427387904) :
    Calls Tryz.prog 256 #[.slice A xs.length c, .int .i64 k] w fun e' w' => e' = .returned (.int .i64 (k + (ctL ctI xs : Nat))) ∧ w' = w := by
  have hlen := h.le63
  rw [mkL_length] at hlen
  go_enter Tryz.func256, Tryz.ntmps256
  go_wp2_with fail
  go_loopw [1, 5] (fun q i W => ∃ m : Nat, m ≤ xs.length ∧ i = .int .i64 m ∧ q = .int .i64 (k + (ctL ctI (xs.take m) : Nat)) ∧ W = w) (fun _ i _ => xs.length - (intOf i).toNat)
  case atStart => exact ⟨0, Nat.zero_le _, rfl, by simp [ctL], rfl⟩
  case round =>
    obtain ⟨m, hm, rfl, rfl, rfl⟩ := hrel
    by_cases hlt : m < xs.length
    · have hlt' : (m : Int) < (xs.length : Int) := by omega
      have hc1 := ctL_take ctI xs m hlt
      have hc2 := ctL_le ctI xs (m + 1)
      obtain ⟨a, ea, hx⟩ := h.at_ (k := m) (by rw [mkL_length]; exact hlt)
      subst ea
      rw [mkL_get _ _ _ _ _ hlt] at hx
      clear h
      generalize xs[m] = x at hx hc1
      rw [hc1] at hc2
      have HG := Lib.hid hc1
      generalize hK : k + (ctL ctI (xs.take m) : Int) = q at hx ⊢
      have HQ := Lib.hid hK
      have hq0 : 0 ≤ q := by omega
      have hq1 : q + (ctI x : Nat) ≤ 4611686018427387904 := by omega
      clear hK hc1 hc2 hb hk
      simp only [show kInt.sz = 1 from rfl, Nat.mul_one] at hx
      obtain ⟨cs, hl, hcs⟩ := hx
      obtain rfl := hcs
      have q0 := hl.c0
      simp only [mkI] at q0
      clear hl
      replace hq1 : q + 1 ≤ 4611686018427387904 := by simp only [ctI] at hq1; omega
      go_wp2_with fail
      exact ⟨⟨m + 1, hlt, by go_num, congrArg (Value.int .i64) (by have h1 := HG.out; have h2 := HQ.out; simp only [ctI] at h1; omega), by first | rfl | trivial⟩, by simp [intOf]; omega⟩
    · have hk' : m = xs.length := by omega
      subst hk'
      rw [List.take_length]
      clear h
      go_wp2_with fail
      go_ret
      exact ⟨rfl, rfl⟩

set_option maxRecDepth 100000 in
set_option maxHeartbeats 2000000 in
theorem heldBoolS_c (xs : List Bool) (A : Option Addr) (c : Nat) (k : Int) (w : World) (h : RdS kBool w A c (mkL mkB ctB k xs)) (hk : 0 ≤ k) (hb : k + (ctL ctB xs : Nat) ≤ 4611686018427387904) :
    Calls Tryz.prog 257 #[.slice A xs.length c, .int .i64 k] w fun e' w' => e' = .returned (.int .i64 (k + (ctL ctB xs : Nat))) ∧ w' = w := by
  have hlen := h.le63
  rw [mkL_length] at hlen
  go_enter Tryz.func257, Tryz.ntmps257
  go_wp2_with fail
  go_loopw [1, 5] (fun q i W => ∃ m : Nat, m ≤ xs.length ∧ i = .int .i64 m ∧ q = .int .i64 (k + (ctL ctB (xs.take m) : Nat)) ∧ W = w) (fun _ i _ => xs.length - (intOf i).toNat)
  case atStart => exact ⟨0, Nat.zero_le _, rfl, by simp [ctL], rfl⟩
  case round =>
    obtain ⟨m, hm, rfl, rfl, rfl⟩ := hrel
    by_cases hlt : m < xs.length
    · have hlt' : (m : Int) < (xs.length : Int) := by omega
      have hc1 := ctL_take ctB xs m hlt
      have hc2 := ctL_le ctB xs (m + 1)
      obtain ⟨a, ea, hx⟩ := h.at_ (k := m) (by rw [mkL_length]; exact hlt)
      subst ea
      rw [mkL_get _ _ _ _ _ hlt] at hx
      clear h
      generalize xs[m] = x at hx hc1
      rw [hc1] at hc2
      have HG := Lib.hid hc1
      generalize hK : k + (ctL ctB (xs.take m) : Int) = q at hx ⊢
      have HQ := Lib.hid hK
      have hq0 : 0 ≤ q := by omega
      have hq1 : q + (ctB x : Nat) ≤ 4611686018427387904 := by omega
      clear hK hc1 hc2 hb hk
      simp only [show kBool.sz = 1 from rfl, Nat.mul_one] at hx
      obtain ⟨cs, hl, hcs⟩ := hx
      obtain rfl := hcs
      have q0 := hl.c0
      simp only [mkB] at q0
      clear hl
      replace hq1 : q + 1 ≤ 4611686018427387904 := by simp only [ctB] at hq1; omega
      go_wp2_with fail
      exact ⟨⟨m + 1, hlt, by go_num, congrArg (Value.int .i64) (by have h1 := HG.out; have h2 := HQ.out; simp only [ctB] at h1; omega), by first | rfl | trivial⟩, by simp [intOf]; omega⟩
    · have hk' : m = xs.length := by omega
      subst hk'
      rw [List.take_length]
      clear h
      go_wp2_with fail
      go_ret
      exact ⟨rfl, rfl⟩

set_option maxRecDepth 100000 in
set_option maxHeartbeats 2000000 in
theorem heldEntryS_c (xs : List SEntry) (A : Option Addr) (c : Nat) (k : Int) (w : World) (h : RdS kEntry w A c (mkL mkEntry ctEntry k xs)) (hk : 0 ≤ k) (hb : k + (ctL ctEntry xs : Nat) ≤ 4611686018427387904) :
    Calls Tryz.prog 216 #[.slice A xs.length c, .int .i64 k] w fun e' w' => e' = .returned (.int .i64 (k + (ctL ctEntry xs : Nat))) ∧ w' = w := by
  have hlen := h.le63
  rw [mkL_length] at hlen
  go_enter Tryz.func216, Tryz.ntmps216
  go_wp2_with fail
  go_loopw [1, 5] (fun q i W => ∃ m : Nat, m ≤ xs.length ∧ i = .int .i64 m ∧ q = .int .i64 (k + (ctL ctEntry (xs.take m) : Nat)) ∧ W = w) (fun _ i _ => xs.length - (intOf i).toNat)
  case atStart => exact ⟨0, Nat.zero_le _, rfl, by simp [ctL], rfl⟩
  case round =>
    obtain ⟨m, hm, rfl, rfl, rfl⟩ := hrel
    by_cases hlt : m < xs.length
    · have hlt' : (m : Int) < (xs.length : Int) := by omega
      have hc1 := ctL_take ctEntry xs m hlt
      have hc2 := ctL_le ctEntry xs (m + 1)
      obtain ⟨a, ea, hx⟩ := h.at_ (k := m) (by rw [mkL_length]; exact hlt)
      subst ea
      rw [mkL_get _ _ _ _ _ hlt] at hx
      clear h
      generalize xs[m] = x at hx hc1
      rw [hc1] at hc2
      have HG := Lib.hid hc1
      generalize hK : k + (ctL ctEntry (xs.take m) : Int) = q at hx ⊢
      have HQ := Lib.hid hK
      have hq0 : 0 ≤ q := by omega
      have hq1 : q + (ctEntry x : Nat) ≤ 4611686018427387904 := by omega
      clear hK hc1 hc2 hb hk
      replace hq1 : q + 1 + 1 + 1 + 1 + 1 + 1 ≤ 4611686018427387904 := by simp only [ctEntry] at hq1; omega
      simp only [show kEntry.sz = 6 from rfl] at hx
      have hq := atEntry hx
      simp only [mkEntry] at hq
      obtain ⟨q0, q1, q2, q3, q4, q5⟩ := hq
      clear hx
      go_wp2_with fail
      exact ⟨⟨m + 1, hlt, by go_num, congrArg (Value.int .i64) (by have h1 := HG.out; have h2 := HQ.out; simp only [ctEntry] at h1; omega), by first | rfl | trivial⟩, by simp [intOf]; omega⟩
    · have hk' : m = xs.length := by omega
      subst hk'
      rw [List.take_length]
      clear h
      go_wp2_with fail
      go_ret
      exact ⟨rfl, rfl⟩

set_option maxRecDepth 100000 in
set_option maxHeartbeats 2000000 in
theorem heldDoerS_c (xs : List SDoer) (A : Option Addr) (c : Nat) (k : Int) (w : World) (h : RdS kDoer w A c (mkL mkDoer ctDoer k xs)) (hk : 0 ≤ k) (hb : k + (ctL ctDoer xs : Nat) ≤ 4611686018427387904) :
    Calls Tryz.prog 258 #[.slice A xs.length c, .int .i64 k] w fun e' w' => e' = .returned (.int .i64 (k + (ctL ctDoer xs : Nat))) ∧ w' = w := by
  have hlen := h.le63
  rw [mkL_length] at hlen
  go_enter Tryz.func258, Tryz.ntmps258
  go_wp2_with fail
  go_loopw [1, 5] (fun q i W => ∃ m : Nat, m ≤ xs.length ∧ i = .int .i64 m ∧ q = .int .i64 (k + (ctL ctDoer (xs.take m) : Nat)) ∧ W = w) (fun _ i _ => xs.length - (intOf i).toNat)
  case atStart => exact ⟨0, Nat.zero_le _, rfl, by simp [ctL], rfl⟩
  case round =>
    obtain ⟨m, hm, rfl, rfl, rfl⟩ := hrel
    by_cases hlt : m < xs.length
    · have hlt' : (m : Int) < (xs.length : Int) := by omega
      have hc1 := ctL_take ctDoer xs m hlt
      have hc2 := ctL_le ctDoer xs (m + 1)
      obtain ⟨a, ea, hx⟩ := h.at_ (k := m) (by rw [mkL_length]; exact hlt)
      subst ea
      rw [mkL_get _ _ _ _ _ hlt] at hx
      clear h
      generalize xs[m] = x at hx hc1
      rw [hc1] at hc2
      have HG := Lib.hid hc1
      generalize hK : k + (ctL ctDoer (xs.take m) : Int) = q at hx ⊢
      have HQ := Lib.hid hK
      have hq0 : 0 ≤ q := by omega
      have hq1 : q + (ctDoer x : Nat) ≤ 4611686018427387904 := by omega
      clear hK hc1 hc2 hb hk
      replace hq1 : q + 1 + 1 + ↑(ctL ctEntry x.Log) + 1 ≤ 4611686018427387904 := by simp only [ctDoer] at hq1; omega
      have n2 : 0 ≤ q + 1 + 1 + ↑(ctL ctEntry x.Log) := by omega
      simp only [show kDoer.sz = 4 from rfl] at hx
      obtain ⟨A2, c2, hq⟩ := atDoer hx
      simp only [mkDoer, mkL_length] at hq
      obtain ⟨q0, q1, q2, q3, h2⟩ := hq
      clear hx
      go_wp2_with (first | (go_at_call 216; (with_reducible refine (heldEntryS_c x.Log A2 c2 _ _ h2 (by omega) (by omega)).mono ?_); rintro e w' ⟨rfl, rfl⟩))
      exact ⟨⟨m + 1, hlt, by go_num, congrArg (Value.int .i64) (by have h1 := HG.out; have h2 := HQ.out; simp only [ctDoer] at h1; omega), by first | rfl | trivial⟩, by simp [intOf]; omega⟩
    · have hk' : m = xs.length := by omega
      subst hk'
      rw [List.take_length]
      clear h
      go_wp2_with fail
      go_ret
      exact ⟨rfl, rfl⟩

set_option maxRecDepth 100000 in
set_option maxHeartbeats 2000000 in
theorem heldMailS_c (xs : List SMail) (A : Option Addr) (c : Nat) (k : Int) (w : World) (h : RdS kMail w A c (mkL mkMail ctMail k xs)) (hk : 0 ≤ k) (hb : k + (ctL ctMail xs : Nat) ≤ 4611686018427387904) :
    Calls Tryz.prog 215 #[.slice A xs.length c, .int .i64 k] w fun e' w' => e' = .returned (.int .i64 (k + (ctL ctMail xs : Nat))) ∧ w' = w := by
  have hlen := h.le63
  rw [mkL_length] at hlen
  go_enter Tryz.func215, Tryz.ntmps215
  go_wp2_with fail
  go_loopw [1, 5] (fun q i W => ∃ m : Nat, m ≤ xs.length ∧ i = .int .i64 m ∧ q = .int .i64 (k + (ctL ctMail (xs.take m) : Nat)) ∧ W = w) (fun _ i _ => xs.length - (intOf i).toNat)
  case atStart => exact ⟨0, Nat.zero_le _, rfl, by simp [ctL], rfl⟩
  case round =>
    obtain ⟨m, hm, rfl, rfl, rfl⟩ := hrel
    by_cases hlt : m < xs.length
    · have hlt' : (m : Int) < (xs.length : Int) := by omega
      have hc1 := ctL_take ctMail xs m hlt
      have hc2 := ctL_le ctMail xs (m + 1)
      obtain ⟨a, ea, hx⟩ := h.at_ (k := m) (by rw [mkL_length]; exact hlt)
      subst ea
      rw [mkL_get _ _ _ _ _ hlt] at hx
      clear h
      generalize xs[m] = x at hx hc1
      rw [hc1] at hc2
      have HG := Lib.hid hc1
      generalize hK : k + (ctL ctMail (xs.take m) : Int) = q at hx ⊢
      have HQ := Lib.hid hK
      have hq0 : 0 ≤ q := by omega
      have hq1 : q + (ctMail x : Nat) ≤ 4611686018427387904 := by omega
      clear hK hc1 hc2 hb hk
      replace hq1 : q + 1 + 1 + 1 + 1 + 1 + 1 + 1 + 1 + 1 + 1 + 1 + 1 + 1 + ↑(ctL ctEntry x.Log) + 1 ≤ 4611686018427387904 := by simp only [ctMail] at hq1; omega
      have n13 : 0 ≤ q + 1 + 1 + 1 + 1 + 1 + 1 + 1 + 1 + 1 + 1 + 1 + 1 + 1 + ↑(ctL ctEntry x.Log) := by omega
      simp only [show kMail.sz = 15 from rfl] at hx
      obtain ⟨A13, c13, hq⟩ := atMail hx
      simp only [mkMail, mkL_length] at hq
      obtain ⟨q0, q1, q2, q3, q4, q5, q6, q7, q8, q9, q10, q11, q12, q13, q14, h13⟩ := hq
      clear hx
      go_wp2_with (first | (go_at_call 216; (with_reducible refine (heldEntryS_c x.Log A13 c13 _ _ h13 (by omega) (by omega)).mono ?_); rintro e w' ⟨rfl, rfl⟩))
      exact ⟨⟨m + 1, hlt, by go_num, congrArg (Value.int .i64) (by have h1 := HG.out; have h2 := HQ.out; simp only [ctMail] at h1; omega), by first | rfl | trivial⟩, by simp [intOf]; omega⟩
    · have hk' : m = xs.length := by omega
      subst hk'
      rw [List.take_length]
      clear h
      go_wp2_with fail
      go_ret
      exact ⟨rfl, rfl⟩

set_option maxRecDepth 100000 in
set_option maxHeartbeats 2000000 in
theorem heldReplicaS_c (xs : List SReplica) (A : Option Addr) (c : Nat) (k : Int) (w : World) (h : RdS kReplica w A c (mkL mkReplica ctReplica k xs)) (hk : 0 ≤ k) (hb : k + (ctL ctReplica xs : Nat) ≤ 4611686018427387904) :
    Calls Tryz.prog 214 #[.slice A xs.length c, .int .i64 k] w fun e' w' => e' = .returned (.int .i64 (k + (ctL ctReplica xs : Nat))) ∧ w' = w := by
  have hlen := h.le63
  rw [mkL_length] at hlen
  go_enter Tryz.func214, Tryz.ntmps214
  go_wp2_with fail
  go_loopw [1, 5] (fun q i W => ∃ m : Nat, m ≤ xs.length ∧ i = .int .i64 m ∧ q = .int .i64 (k + (ctL ctReplica (xs.take m) : Nat)) ∧ W = w) (fun _ i _ => xs.length - (intOf i).toNat)
  case atStart => exact ⟨0, Nat.zero_le _, rfl, by simp [ctL], rfl⟩
  case round =>
    obtain ⟨m, hm, rfl, rfl, rfl⟩ := hrel
    by_cases hlt : m < xs.length
    · have hlt' : (m : Int) < (xs.length : Int) := by omega
      have hc1 := ctL_take ctReplica xs m hlt
      have hc2 := ctL_le ctReplica xs (m + 1)
      obtain ⟨a, ea, hx⟩ := h.at_ (k := m) (by rw [mkL_length]; exact hlt)
      subst ea
      rw [mkL_get _ _ _ _ _ hlt] at hx
      clear h
      generalize xs[m] = x at hx hc1
      rw [hc1] at hc2
      have HG := Lib.hid hc1
      generalize hK : k + (ctL ctReplica (xs.take m) : Int) = q at hx ⊢
      have HQ := Lib.hid hK
      have hq0 : 0 ≤ q := by omega
      have hq1 : q + (ctReplica x : Nat) ≤ 4611686018427387904 := by omega
      clear hK hc1 hc2 hb hk
      replace hq1 : q + 1 + 1 + 1 + 1 + 1 + ↑(ctL ctEntry x.Log) + 1 + ↑(ctL ctI x.Oks) + ↑(ctL ctB x.Asks) + ↑(ctL ctDoer x.Doers) ≤ 4611686018427387904 := by simp only [ctReplica] at hq1; omega
      have n5 : 0 ≤ q + 1 + 1 + 1 + 1 + 1 + ↑(ctL ctEntry x.Log) := by omega
      have n7 : 0 ≤ q + 1 + 1 + 1 + 1 + 1 + ↑(ctL ctEntry x.Log) + 1 + ↑(ctL ctI x.Oks) := by omega
      have n8 : 0 ≤ q + 1 + 1 + 1 + 1 + 1 + ↑(ctL ctEntry x.Log) + 1 + ↑(ctL ctI x.Oks) + ↑(ctL ctB x.Asks) := by omega
      have n9 : 0 ≤ q + 1 + 1 + 1 + 1 + 1 + ↑(ctL ctEntry x.Log) + 1 + ↑(ctL ctI x.Oks) + ↑(ctL ctB x.Asks) + ↑(ctL ctDoer x.Doers) := by omega
      simp only [show kReplica.sz = 10 from rfl] at hx
      obtain ⟨A5, c5, A7, c7, A8, c8, A9, c9, hq⟩ := atReplica hx
      simp only [mkReplica, mkL_length] at hq
      obtain ⟨q0, q1, q2, q3, q4, q5, q6, q7, q8, q9, h5, h7, h8, h9⟩ := hq
      clear hx
      go_wp2_with (first | (go_at_call 216; (with_reducible refine (heldEntryS_c x.Log A5 c5 _ _ h5 (by omega) (by omega)).mono ?_); rintro e w' ⟨rfl, rfl⟩) | (go_at_call 256; (with_reducible refine (heldInt64S_c x.Oks A7 c7 _ _ h7 (by omega) (by omega)).mono ?_); rintro e w' ⟨rfl, rfl⟩) | (go_at_call 257; (with_reducible refine (heldBoolS_c x.Asks A8 c8 _ _ h8 (by omega) (by omega)).mono ?_); rintro e w' ⟨rfl, rfl⟩) | (go_at_call 258; (with_reducible refine (heldDoerS_c x.Doers A9 c9 _ _ h9 (by omega) (by omega)).mono ?_); rintro e w' ⟨rfl, rfl⟩))
      exact ⟨⟨m + 1, hlt, by go_num, congrArg (Value.int .i64) (by have h1 := HG.out; have h2 := HQ.out; simp only [ctReplica] at h1; omega), by first | rfl | trivial⟩, by simp [intOf]; omega⟩
    · have hk' : m = xs.length := by omega
      subst hk'
      rw [List.take_length]
      clear h
      go_wp2_with fail
      go_ret
      exact ⟨rfl, rfl⟩

set_option maxRecDepth 100000 in
set_option maxHeartbeats 2000000 in
theorem markCluster_c (x : SCluster) (A0 : Option Addr) (c0 : Nat) (A1 : Option Addr) (c1 : Nat) (A2 : Option Addr) (c2 : Nat) (k : Int) (B : Nat) (f0 : List Nat) (f1 : List Nat) (f2 : List Nat) (w : World) (h0 : OwnS kReplica 29 B w f0 (.slice A0 x.Nodes.length c0) x.Nodes) (h1 : OwnS kMail 59 B w f1 (.slice A1 x.Mails.length c1) x.Mails) (h2 : OwnS kEntry 57 B w f2 (.slice A2 x.Sealed.length c2) x.Sealed) (nd : ((f0 ++ (f1 ++ f2)) : List Nat).Nodup) (hk : 0 ≤ k) (hb : k + ↑(ctL ctReplica x.Nodes) + ↑(ctL ctMail x.Mails) + ↑(ctL ctEntry x.Sealed) ≤ 4611686018427387904) :
    Calls Tryz.prog 49 #[.agg #[.slice A0 x.Nodes.length c0, .slice A1 x.Mails.length c1, .slice A2 x.Sealed.length c2], .int .i64 k] w fun e' w' => e' = .returned (.int .i64 (k + ↑(ctL ctReplica x.Nodes) + ↑(ctL ctMail x.Mails) + ↑(ctL ctEntry x.Sealed))) ∧ OwnS kReplica 29 B w' f0 (.slice A0 x.Nodes.length c0) (mkL mkReplica ctReplica (k) x.Nodes) ∧ OwnS kMail 59 B w' f1 (.slice A1 x.Mails.length c1) (mkL mkMail ctMail (k + ↑(ctL ctReplica x.Nodes)) x.Mails) ∧ OwnS kEntry 57 B w' f2 (.slice A2 x.Sealed.length c2) (mkL mkEntry ctEntry (k + ↑(ctL ctReplica x.Nodes) + ↑(ctL ctMail x.Mails)) x.Sealed) ∧ Turn (f0 ++ (f1 ++ f2)) w w' := by
  have n0 : 0 ≤ k + ↑(ctL ctReplica x.Nodes) := by omega
  have n1 : 0 ≤ k + ↑(ctL ctReplica x.Nodes) + ↑(ctL ctMail x.Mails) := by omega
  have n2 : 0 ≤ k + ↑(ctL ctReplica x.Nodes) + ↑(ctL ctMail x.Mails) + ↑(ctL ctEntry x.Sealed) := by omega
  have i0 : ∀ b ∈ f0, b < w.heap.size := fun b hb => (h0.in b hb).2
  have i1 : ∀ b ∈ f1, b < w.heap.size := fun b hb => (h1.in b hb).2
  have i2 : ∀ b ∈ f2, b < w.heap.size := fun b hb => (h2.in b hb).2
  simp only [List.nodup_append, List.mem_append] at nd
  have hx0 : Blk (w.alloc (.cells #[.slice A0 x.Nodes.length c0, .slice A1 x.Mails.length c1, .slice A2 x.Sealed.length c2] 42)) w.heap.size 42 [.slice A0 x.Nodes.length c0, .slice A1 x.Mails.length c1, .slice A2 x.Sealed.length c2] := blk_alloc w [.slice A0 x.Nodes.length c0, .slice A1 x.Mails.length c1, .slice A2 x.Sealed.length c2] _
  go_enter Tryz.func49, Tryz.ntmps49
  have h0 := OwnS.keep h0 (w' := (w.alloc (.cells #[.slice A0 x.Nodes.length c0, .slice A1 x.Mails.length c1, .slice A2 x.Sealed.length c2] 42))) (fun b hb => Below.heap_alloc _ _ _ (i0 b hb))
  have h1 := OwnS.keep h1 (w' := (w.alloc (.cells #[.slice A0 x.Nodes.length c0, .slice A1 x.Mails.length c1, .slice A2 x.Sealed.length c2] 42))) (fun b hb => Below.heap_alloc _ _ _ (i1 b hb))
  have h2 := OwnS.keep h2 (w' := (w.alloc (.cells #[.slice A0 x.Nodes.length c0, .slice A1 x.Mails.length c1, .slice A2 x.Sealed.length c2] 42))) (fun b hb => Below.heap_alloc _ _ _ (i2 b hb))
  have ht : Turn (f0 ++ (f1 ++ f2)) w (w.alloc (.cells #[.slice A0 x.Nodes.length c0, .slice A1 x.Mails.length c1, .slice A2 x.Sealed.length c2] 42)) := (Turn.refl _ _).alloc _
  go_wp2_with fail
  refine Calls.mono (markReplicaS_c x.Nodes A0 c0 _ B f0 _ h0 (by first | exact nd | simp_all) (by omega) (by omega)) ?_
  rintro e0 w1 ⟨rfl, o0, t0⟩
  have p0_1 := OwnS.turn h1 t0 (by intro b hb hm; (try simp only [List.mem_append] at hm); grind)
  have p0_2 := OwnS.turn h2 t0 (by intro b hb hm; (try simp only [List.mem_append] at hm); grind)
  have ht := ht.trans (t0.mono (fq := (f0 ++ (f1 ++ f2))) (by intro b hb; first | exact hb | (simp only [List.mem_append] at hb ⊢; grind)))
  have hx1 := Blk.keep hx0 (t0.block _ hx0.lt (by intro hm; (try simp only [List.mem_append] at hm); grind))
  have q0_1 := hx1.cell (j := 1) rfl
  go_wp2_with fail
  refine Calls.mono (markMailS_c x.Mails A1 c1 _ B f1 _ p0_1 (by first | exact nd | simp_all) (by omega) (by omega)) ?_
  rintro e1 w2 ⟨rfl, o1, t1⟩
  have p1_0 := OwnS.turn o0 t1 (by intro b hb hm; (try simp only [List.mem_append] at hm); grind)
  have p1_2 := OwnS.turn p0_2 t1 (by intro b hb hm; (try simp only [List.mem_append] at hm); grind)
  have ht := ht.trans (t1.mono (fq := (f0 ++ (f1 ++ f2))) (by intro b hb; first | exact hb | (simp only [List.mem_append] at hb ⊢; grind)))
  have hx2 := Blk.keep hx1 (t1.block _ hx1.lt (by intro hm; (try simp only [List.mem_append] at hm); grind))
  have q1_2 := hx2.cell (j := 2) rfl
  go_wp2_with fail
  refine Calls.mono (markEntryS_c x.Sealed A2 c2 _ B f2 _ p1_2 (by first | exact nd | simp_all) (by omega) (by omega)) ?_
  rintro e2 w3 ⟨rfl, o2, t2⟩
  have p2_0 := OwnS.turn p1_0 t2 (by intro b hb hm; (try simp only [List.mem_append] at hm); grind)
  have p2_1 := OwnS.turn o1 t2 (by intro b hb hm; (try simp only [List.mem_append] at hm); grind)
  have ht := ht.trans (t2.mono (fq := (f0 ++ (f1 ++ f2))) (by intro b hb; first | exact hb | (simp only [List.mem_append] at hb ⊢; grind)))
  have hx3 := Blk.keep hx2 (t2.block _ hx2.lt (by intro hm; (try simp only [List.mem_append] at hm); grind))
  go_wp2_with fail
  go_ret
  exact ⟨rfl, p2_0, p2_1, o2, ht⟩

set_option maxRecDepth 100000 in
set_option maxHeartbeats 2000000 in
theorem heldCluster_c (x : SCluster) (A0 : Option Addr) (c0 : Nat) (A1 : Option Addr) (c1 : Nat) (A2 : Option Addr) (c2 : Nat) (k : Int) (w : World) (h0 : RdS kReplica w A0 c0 (mkL mkReplica ctReplica (k) x.Nodes)) (h1 : RdS kMail w A1 c1 (mkL mkMail ctMail (k + ↑(ctL ctReplica x.Nodes)) x.Mails)) (h2 : RdS kEntry w A2 c2 (mkL mkEntry ctEntry (k + ↑(ctL ctReplica x.Nodes) + ↑(ctL ctMail x.Mails)) x.Sealed)) (hk : 0 ≤ k) (hb : k + ↑(ctL ctReplica x.Nodes) + ↑(ctL ctMail x.Mails) + ↑(ctL ctEntry x.Sealed) ≤ 4611686018427387904) :
    Calls Tryz.prog 136 #[.agg #[.slice A0 x.Nodes.length c0, .slice A1 x.Mails.length c1, .slice A2 x.Sealed.length c2], .int .i64 k] w fun e' w' => e' = .returned (.int .i64 (k + ↑(ctL ctReplica x.Nodes) + ↑(ctL ctMail x.Mails) + ↑(ctL ctEntry x.Sealed))) ∧ Below w.heap.size w w' := by
  have n0 : 0 ≤ k + ↑(ctL ctReplica x.Nodes) := by omega
  have n1 : 0 ≤ k + ↑(ctL ctReplica x.Nodes) + ↑(ctL ctMail x.Mails) := by omega
  have n2 : 0 ≤ k + ↑(ctL ctReplica x.Nodes) + ↑(ctL ctMail x.Mails) + ↑(ctL ctEntry x.Sealed) := by omega
  have hx0 : Blk (w.alloc (.cells #[.slice A0 x.Nodes.length c0, .slice A1 x.Mails.length c1, .slice A2 x.Sealed.length c2] 42)) w.heap.size 42 [.slice A0 x.Nodes.length c0, .slice A1 x.Mails.length c1, .slice A2 x.Sealed.length c2] := blk_alloc w [.slice A0 x.Nodes.length c0, .slice A1 x.Mails.length c1, .slice A2 x.Sealed.length c2] _
  go_enter Tryz.func136, Tryz.ntmps136
  have hb0 : Below w.heap.size w (w.alloc (.cells #[.slice A0 x.Nodes.length c0, .slice A1 x.Mails.length c1, .slice A2 x.Sealed.length c2] 42)) := below_alloc (Below.refl _ _) _
  go_wp2_with fail
  refine Calls.mono (heldReplicaS_c x.Nodes A0 c0 _ _ (h0.below (by repeat (first | (with_reducible assumption) | (with_reducible exact Below.refl _ _) | (with_reducible apply below_alloc) | (with_reducible apply below_drewN) | (with_reducible apply Below.drew) | (with_reducible refine below_set ?_ (by dsimp only; omega) _) | (with_reducible refine below_trans ?_ (by assumption))))) (by omega) (by omega)) ?_
  rintro e0 w1 ⟨rfl, rfl⟩
  have q0_1 := hx0.cell (j := 1) rfl
  go_wp2_with fail
  refine Calls.mono (heldMailS_c x.Mails A1 c1 _ _ (h1.below (by repeat (first | (with_reducible assumption) | (with_reducible exact Below.refl _ _) | (with_reducible apply below_alloc) | (with_reducible apply below_drewN) | (with_reducible apply Below.drew) | (with_reducible refine below_set ?_ (by dsimp only; omega) _) | (with_reducible refine below_trans ?_ (by assumption))))) (by omega) (by omega)) ?_
  rintro e1 w2 ⟨rfl, rfl⟩
  have q1_2 := hx0.cell (j := 2) rfl
  go_wp2_with fail
  refine Calls.mono (heldEntryS_c x.Sealed A2 c2 _ _ (h2.below (by repeat (first | (with_reducible assumption) | (with_reducible exact Below.refl _ _) | (with_reducible apply below_alloc) | (with_reducible apply below_drewN) | (with_reducible apply Below.drew) | (with_reducible refine below_set ?_ (by dsimp only; omega) _) | (with_reducible refine below_trans ?_ (by assumption))))) (by omega) (by omega)) ?_
  rintro e2 w3 ⟨rfl, rfl⟩
  go_wp2_with fail
  go_ret
  exact ⟨rfl, by repeat (first | (with_reducible assumption) | (with_reducible exact Below.refl _ _) | (with_reducible apply below_alloc) | (with_reducible apply below_drewN) | (with_reducible apply Below.drew) | (with_reducible refine below_set ?_ (by dsimp only; omega) _) | (with_reducible refine below_trans ?_ (by assumption)))⟩

set_option maxRecDepth 100000 in
set_option maxHeartbeats 2000000 in
theorem markClusterResult_c (x : SClusterResult) (A1 : Option Addr) (c1 : Nat) (A2 : Option Addr) (c2 : Nat) (A3 : Option Addr) (c3 : Nat) (k : Int) (B : Nat) (f1 : List Nat) (f2 : List Nat) (f3 : List Nat) (w : World) (h1 : OwnS kReplica 29 B w f1 (.slice A1 x.Cluster.Nodes.length c1) x.Cluster.Nodes) (h2 : OwnS kMail 59 B w f2 (.slice A2 x.Cluster.Mails.length c2) x.Cluster.Mails) (h3 : OwnS kEntry 57 B w f3 (.slice A3 x.Cluster.Sealed.length c3) x.Cluster.Sealed) (nd : ((f1 ++ (f2 ++ f3)) : List Nat).Nodup) (hk : 0 ≤ k) (hb : k + ↑(ctL ctReplica x.Cluster.Nodes) + ↑(ctL ctMail x.Cluster.Mails) + ↑(ctL ctEntry x.Cluster.Sealed) ≤ 4611686018427387904) :
    Calls Tryz.prog 50 #[.agg #[.int .i64 x.Code, .slice A1 x.Cluster.Nodes.length c1, .slice A2 x.Cluster.Mails.length c2, .slice A3 x.Cluster.Sealed.length c3], .int .i64 k] w fun e' w' => e' = .returned (.int .i64 (k + ↑(ctL ctReplica x.Cluster.Nodes) + ↑(ctL ctMail x.Cluster.Mails) + ↑(ctL ctEntry x.Cluster.Sealed))) ∧ OwnS kReplica 29 B w' f1 (.slice A1 x.Cluster.Nodes.length c1) (mkL mkReplica ctReplica (k) x.Cluster.Nodes) ∧ OwnS kMail 59 B w' f2 (.slice A2 x.Cluster.Mails.length c2) (mkL mkMail ctMail (k + ↑(ctL ctReplica x.Cluster.Nodes)) x.Cluster.Mails) ∧ OwnS kEntry 57 B w' f3 (.slice A3 x.Cluster.Sealed.length c3) (mkL mkEntry ctEntry (k + ↑(ctL ctReplica x.Cluster.Nodes) + ↑(ctL ctMail x.Cluster.Mails)) x.Cluster.Sealed) ∧ Turn (f1 ++ (f2 ++ f3)) w w' := by
  have n1 : 0 ≤ k + ↑(ctL ctReplica x.Cluster.Nodes) := by omega
  have n2 : 0 ≤ k + ↑(ctL ctReplica x.Cluster.Nodes) + ↑(ctL ctMail x.Cluster.Mails) := by omega
  have n3 : 0 ≤ k + ↑(ctL ctReplica x.Cluster.Nodes) + ↑(ctL ctMail x.Cluster.Mails) + ↑(ctL ctEntry x.Cluster.Sealed) := by omega
  have i1 : ∀ b ∈ f1, b < w.heap.size := fun b hb => (h1.in b hb).2
  have i2 : ∀ b ∈ f2, b < w.heap.size := fun b hb => (h2.in b hb).2
  have i3 : ∀ b ∈ f3, b < w.heap.size := fun b hb => (h3.in b hb).2
  simp only [List.nodup_append, List.mem_append] at nd
  have hx0 : Blk (w.alloc (.cells #[.int .i64 x.Code, .slice A1 x.Cluster.Nodes.length c1, .slice A2 x.Cluster.Mails.length c2, .slice A3 x.Cluster.Sealed.length c3] 74)) w.heap.size 74 [.int .i64 x.Code, .slice A1 x.Cluster.Nodes.length c1, .slice A2 x.Cluster.Mails.length c2, .slice A3 x.Cluster.Sealed.length c3] := blk_alloc w [.int .i64 x.Code, .slice A1 x.Cluster.Nodes.length c1, .slice A2 x.Cluster.Mails.length c2, .slice A3 x.Cluster.Sealed.length c3] _
  go_enter Tryz.func50, Tryz.ntmps50
  have h1 := OwnS.keep h1 (w' := (w.alloc (.cells #[.int .i64 x.Code, .slice A1 x.Cluster.Nodes.length c1, .slice A2 x.Cluster.Mails.length c2, .slice A3 x.Cluster.Sealed.length c3] 74))) (fun b hb => Below.heap_alloc _ _ _ (i1 b hb))
  have h2 := OwnS.keep h2 (w' := (w.alloc (.cells #[.int .i64 x.Code, .slice A1 x.Cluster.Nodes.length c1, .slice A2 x.Cluster.Mails.length c2, .slice A3 x.Cluster.Sealed.length c3] 74))) (fun b hb => Below.heap_alloc _ _ _ (i2 b hb))
  have h3 := OwnS.keep h3 (w' := (w.alloc (.cells #[.int .i64 x.Code, .slice A1 x.Cluster.Nodes.length c1, .slice A2 x.Cluster.Mails.length c2, .slice A3 x.Cluster.Sealed.length c3] 74))) (fun b hb => Below.heap_alloc _ _ _ (i3 b hb))
  have ht : Turn (f1 ++ (f2 ++ f3)) w (w.alloc (.cells #[.int .i64 x.Code, .slice A1 x.Cluster.Nodes.length c1, .slice A2 x.Cluster.Mails.length c2, .slice A3 x.Cluster.Sealed.length c3] 74)) := (Turn.refl _ _).alloc _
  go_wp2_with fail
  refine Calls.mono (markCluster_c x.Cluster A1 c1 A2 c2 A3 c3 _ B f1 f2 f3 _ h1 h2 h3 (by first | exact nd | (simp only [List.nodup_append, List.mem_append]; grind)) (by omega) (by omega)) ?_
  rintro e0 w1 ⟨rfl, o1, o2, o3, t0⟩
  have ht := ht.trans (t0.mono (fq := (f1 ++ (f2 ++ f3))) (by intro b hb; first | exact hb | (simp only [List.mem_append] at hb ⊢; grind)))
  have hx1 := Blk.keep hx0 (t0.block _ hx0.lt (by intro hm; (try simp only [List.mem_append] at hm); grind))
  go_wp2_with fail
  go_ret
  exact ⟨rfl, o1, o2, o3, ht⟩

set_option maxRecDepth 100000 in
set_option maxHeartbeats 2000000 in
theorem heldClusterResult_c (x : SClusterResult) (A1 : Option Addr) (c1 : Nat) (A2 : Option Addr) (c2 : Nat) (A3 : Option Addr) (c3 : Nat) (k : Int) (w : World) (h1 : RdS kReplica w A1 c1 (mkL mkReplica ctReplica (k) x.Cluster.Nodes)) (h2 : RdS kMail w A2 c2 (mkL mkMail ctMail (k + ↑(ctL ctReplica x.Cluster.Nodes)) x.Cluster.Mails)) (h3 : RdS kEntry w A3 c3 (mkL mkEntry ctEntry (k + ↑(ctL ctReplica x.Cluster.Nodes) + ↑(ctL ctMail x.Cluster.Mails)) x.Cluster.Sealed)) (hk : 0 ≤ k) (hb : k + ↑(ctL ctReplica x.Cluster.Nodes) + ↑(ctL ctMail x.Cluster.Mails) + ↑(ctL ctEntry x.Cluster.Sealed) ≤ 4611686018427387904) :
    Calls Tryz.prog 51 #[.agg #[.int .i64 x.Code, .slice A1 x.Cluster.Nodes.length c1, .slice A2 x.Cluster.Mails.length c2, .slice A3 x.Cluster.Sealed.length c3], .int .i64 k] w fun e' w' => e' = .returned (.int .i64 (k + ↑(ctL ctReplica x.Cluster.Nodes) + ↑(ctL ctMail x.Cluster.Mails) + ↑(ctL ctEntry x.Cluster.Sealed))) ∧ Below w.heap.size w w' := by
  have n1 : 0 ≤ k + ↑(ctL ctReplica x.Cluster.Nodes) := by omega
  have n2 : 0 ≤ k + ↑(ctL ctReplica x.Cluster.Nodes) + ↑(ctL ctMail x.Cluster.Mails) := by omega
  have n3 : 0 ≤ k + ↑(ctL ctReplica x.Cluster.Nodes) + ↑(ctL ctMail x.Cluster.Mails) + ↑(ctL ctEntry x.Cluster.Sealed) := by omega
  have hx0 : Blk (w.alloc (.cells #[.int .i64 x.Code, .slice A1 x.Cluster.Nodes.length c1, .slice A2 x.Cluster.Mails.length c2, .slice A3 x.Cluster.Sealed.length c3] 74)) w.heap.size 74 [.int .i64 x.Code, .slice A1 x.Cluster.Nodes.length c1, .slice A2 x.Cluster.Mails.length c2, .slice A3 x.Cluster.Sealed.length c3] := blk_alloc w [.int .i64 x.Code, .slice A1 x.Cluster.Nodes.length c1, .slice A2 x.Cluster.Mails.length c2, .slice A3 x.Cluster.Sealed.length c3] _
  go_enter Tryz.func51, Tryz.ntmps51
  have hb0 : Below w.heap.size w (w.alloc (.cells #[.int .i64 x.Code, .slice A1 x.Cluster.Nodes.length c1, .slice A2 x.Cluster.Mails.length c2, .slice A3 x.Cluster.Sealed.length c3] 74)) := below_alloc (Below.refl _ _) _
  go_wp2_with fail
  refine Calls.mono (heldCluster_c x.Cluster A1 c1 A2 c2 A3 c3 _ _ (h1.below (by repeat (first | (with_reducible assumption) | (with_reducible exact Below.refl _ _) | (with_reducible apply below_alloc) | (with_reducible apply below_drewN) | (with_reducible apply Below.drew) | (with_reducible refine below_set ?_ (by dsimp only; omega) _) | (with_reducible refine below_trans ?_ (by assumption))))) (h2.below (by repeat (first | (with_reducible assumption) | (with_reducible exact Below.refl _ _) | (with_reducible apply below_alloc) | (with_reducible apply below_drewN) | (with_reducible apply Below.drew) | (with_reducible refine below_set ?_ (by dsimp only; omega) _) | (with_reducible refine below_trans ?_ (by assumption))))) (h3.below (by repeat (first | (with_reducible assumption) | (with_reducible exact Below.refl _ _) | (with_reducible apply below_alloc) | (with_reducible apply below_drewN) | (with_reducible apply Below.drew) | (with_reducible refine below_set ?_ (by dsimp only; omega) _) | (with_reducible refine below_trans ?_ (by assumption))))) (by omega) (by omega)) ?_
  rintro e0 w1 ⟨rfl, hb1⟩
  have hx1 := Blk.below hx0 hb1
  go_wp2_with fail
  go_ret
  exact ⟨rfl, by repeat (first | (with_reducible assumption) | (with_reducible exact Below.refl _ _) | (with_reducible apply below_alloc) | (with_reducible apply below_drewN) | (with_reducible apply Below.drew) | (with_reducible refine below_set ?_ (by dsimp only; omega) _) | (with_reducible refine below_trans ?_ (by assumption)))⟩

set_option maxRecDepth 100000 in
set_option maxHeartbeats 2000000 in
theorem markDriveResult_c (x : SDriveResult) (A2 : Option Addr) (c2 : Nat) (A3 : Option Addr) (c3 : Nat) (A4 : Option Addr) (c4 : Nat) (k : Int) (B : Nat) (f2 : List Nat) (f3 : List Nat) (f4 : List Nat) (w : World) (h2 : OwnS kReplica 29 B w f2 (.slice A2 x.Cluster.Nodes.length c2) x.Cluster.Nodes) (h3 : OwnS kMail 59 B w f3 (.slice A3 x.Cluster.Mails.length c3) x.Cluster.Mails) (h4 : OwnS kEntry 57 B w f4 (.slice A4 x.Cluster.Sealed.length c4) x.Cluster.Sealed) (nd : ((f2 ++ (f3 ++ f4)) : List Nat).Nodup) (hk : 0 ≤ k) (hb : k + ↑(ctL ctReplica x.Cluster.Nodes) + ↑(ctL ctMail x.Cluster.Mails) + ↑(ctL ctEntry x.Cluster.Sealed) ≤ 4611686018427387904) :
    Calls Tryz.prog 59 #[.agg #[.int .i64 x.Code, .int .i64 x.Rounds, .slice A2 x.Cluster.Nodes.length c2, .slice A3 x.Cluster.Mails.length c3, .slice A4 x.Cluster.Sealed.length c4], .int .i64 k] w fun e' w' => e' = .returned (.int .i64 (k + ↑(ctL ctReplica x.Cluster.Nodes) + ↑(ctL ctMail x.Cluster.Mails) + ↑(ctL ctEntry x.Cluster.Sealed))) ∧ OwnS kReplica 29 B w' f2 (.slice A2 x.Cluster.Nodes.length c2) (mkL mkReplica ctReplica (k) x.Cluster.Nodes) ∧ OwnS kMail 59 B w' f3 (.slice A3 x.Cluster.Mails.length c3) (mkL mkMail ctMail (k + ↑(ctL ctReplica x.Cluster.Nodes)) x.Cluster.Mails) ∧ OwnS kEntry 57 B w' f4 (.slice A4 x.Cluster.Sealed.length c4) (mkL mkEntry ctEntry (k + ↑(ctL ctReplica x.Cluster.Nodes) + ↑(ctL ctMail x.Cluster.Mails)) x.Cluster.Sealed) ∧ Turn (f2 ++ (f3 ++ f4)) w w' := by
  have n2 : 0 ≤ k + ↑(ctL ctReplica x.Cluster.Nodes) := by omega
  have n3 : 0 ≤ k + ↑(ctL ctReplica x.Cluster.Nodes) + ↑(ctL ctMail x.Cluster.Mails) := by omega
  have n4 : 0 ≤ k + ↑(ctL ctReplica x.Cluster.Nodes) + ↑(ctL ctMail x.Cluster.Mails) + ↑(ctL ctEntry x.Cluster.Sealed) := by omega
  have i2 : ∀ b ∈ f2, b < w.heap.size := fun b hb => (h2.in b hb).2
  have i3 : ∀ b ∈ f3, b < w.heap.size := fun b hb => (h3.in b hb).2
  have i4 : ∀ b ∈ f4, b < w.heap.size := fun b hb => (h4.in b hb).2
  simp only [List.nodup_append, List.mem_append] at nd
  have hx0 : Blk (w.alloc (.cells #[.int .i64 x.Code, .int .i64 x.Rounds, .slice A2 x.Cluster.Nodes.length c2, .slice A3 x.Cluster.Mails.length c3, .slice A4 x.Cluster.Sealed.length c4] 48)) w.heap.size 48 [.int .i64 x.Code, .int .i64 x.Rounds, .slice A2 x.Cluster.Nodes.length c2, .slice A3 x.Cluster.Mails.length c3, .slice A4 x.Cluster.Sealed.length c4] := blk_alloc w [.int .i64 x.Code, .int .i64 x.Rounds, .slice A2 x.Cluster.Nodes.length c2, .slice A3 x.Cluster.Mails.length c3, .slice A4 x.Cluster.Sealed.length c4] _
  go_enter Tryz.func59, Tryz.ntmps59
  have h2 := OwnS.keep h2 (w' := (w.alloc (.cells #[.int .i64 x.Code, .int .i64 x.Rounds, .slice A2 x.Cluster.Nodes.length c2, .slice A3 x.Cluster.Mails.length c3, .slice A4 x.Cluster.Sealed.length c4] 48))) (fun b hb => Below.heap_alloc _ _ _ (i2 b hb))
  have h3 := OwnS.keep h3 (w' := (w.alloc (.cells #[.int .i64 x.Code, .int .i64 x.Rounds, .slice A2 x.Cluster.Nodes.length c2, .slice A3 x.Cluster.Mails.length c3, .slice A4 x.Cluster.Sealed.length c4] 48))) (fun b hb => Below.heap_alloc _ _ _ (i3 b hb))
  have h4 := OwnS.keep h4 (w' := (w.alloc (.cells #[.int .i64 x.Code, .int .i64 x.Rounds, .slice A2 x.Cluster.Nodes.length c2, .slice A3 x.Cluster.Mails.length c3, .slice A4 x.Cluster.Sealed.length c4] 48))) (fun b hb => Below.heap_alloc _ _ _ (i4 b hb))
  have ht : Turn (f2 ++ (f3 ++ f4)) w (w.alloc (.cells #[.int .i64 x.Code, .int .i64 x.Rounds, .slice A2 x.Cluster.Nodes.length c2, .slice A3 x.Cluster.Mails.length c3, .slice A4 x.Cluster.Sealed.length c4] 48)) := (Turn.refl _ _).alloc _
  go_wp2_with fail
  refine Calls.mono (markCluster_c x.Cluster A2 c2 A3 c3 A4 c4 _ B f2 f3 f4 _ h2 h3 h4 (by first | exact nd | (simp only [List.nodup_append, List.mem_append]; grind)) (by omega) (by omega)) ?_
  rintro e0 w1 ⟨rfl, o2, o3, o4, t0⟩
  have ht := ht.trans (t0.mono (fq := (f2 ++ (f3 ++ f4))) (by intro b hb; first | exact hb | (simp only [List.mem_append] at hb ⊢; grind)))
  have hx1 := Blk.keep hx0 (t0.block _ hx0.lt (by intro hm; (try simp only [List.mem_append] at hm); grind))
  go_wp2_with fail
  go_ret
  exact ⟨rfl, o2, o3, o4, ht⟩

set_option maxRecDepth 100000 in
set_option maxHeartbeats 2000000 in
theorem heldDriveResult_c (x : SDriveResult) (A2 : Option Addr) (c2 : Nat) (A3 : Option Addr) (c3 : Nat) (A4 : Option Addr) (c4 : Nat) (k : Int) (w : World) (h2 : RdS kReplica w A2 c2 (mkL mkReplica ctReplica (k) x.Cluster.Nodes)) (h3 : RdS kMail w A3 c3 (mkL mkMail ctMail (k + ↑(ctL ctReplica x.Cluster.Nodes)) x.Cluster.Mails)) (h4 : RdS kEntry w A4 c4 (mkL mkEntry ctEntry (k + ↑(ctL ctReplica x.Cluster.Nodes) + ↑(ctL ctMail x.Cluster.Mails)) x.Cluster.Sealed)) (hk : 0 ≤ k) (hb : k + ↑(ctL ctReplica x.Cluster.Nodes) + ↑(ctL ctMail x.Cluster.Mails) + ↑(ctL ctEntry x.Cluster.Sealed) ≤ 4611686018427387904) :
    Calls Tryz.prog 60 #[.agg #[.int .i64 x.Code, .int .i64 x.Rounds, .slice A2 x.Cluster.Nodes.length c2, .slice A3 x.Cluster.Mails.length c3, .slice A4 x.Cluster.Sealed.length c4], .int .i64 k] w fun e' w' => e' = .returned (.int .i64 (k + ↑(ctL ctReplica x.Cluster.Nodes) + ↑(ctL ctMail x.Cluster.Mails) + ↑(ctL ctEntry x.Cluster.Sealed))) ∧ Below w.heap.size w w' := by
  have n2 : 0 ≤ k + ↑(ctL ctReplica x.Cluster.Nodes) := by omega
  have n3 : 0 ≤ k + ↑(ctL ctReplica x.Cluster.Nodes) + ↑(ctL ctMail x.Cluster.Mails) := by omega
  have n4 : 0 ≤ k + ↑(ctL ctReplica x.Cluster.Nodes) + ↑(ctL ctMail x.Cluster.Mails) + ↑(ctL ctEntry x.Cluster.Sealed) := by omega
  have hx0 : Blk (w.alloc (.cells #[.int .i64 x.Code, .int .i64 x.Rounds, .slice A2 x.Cluster.Nodes.length c2, .slice A3 x.Cluster.Mails.length c3, .slice A4 x.Cluster.Sealed.length c4] 48)) w.heap.size 48 [.int .i64 x.Code, .int .i64 x.Rounds, .slice A2 x.Cluster.Nodes.length c2, .slice A3 x.Cluster.Mails.length c3, .slice A4 x.Cluster.Sealed.length c4] := blk_alloc w [.int .i64 x.Code, .int .i64 x.Rounds, .slice A2 x.Cluster.Nodes.length c2, .slice A3 x.Cluster.Mails.length c3, .slice A4 x.Cluster.Sealed.length c4] _
  go_enter Tryz.func60, Tryz.ntmps60
  have hb0 : Below w.heap.size w (w.alloc (.cells #[.int .i64 x.Code, .int .i64 x.Rounds, .slice A2 x.Cluster.Nodes.length c2, .slice A3 x.Cluster.Mails.length c3, .slice A4 x.Cluster.Sealed.length c4] 48)) := below_alloc (Below.refl _ _) _
  go_wp2_with fail
  refine Calls.mono (heldCluster_c x.Cluster A2 c2 A3 c3 A4 c4 _ _ (h2.below (by repeat (first | (with_reducible assumption) | (with_reducible exact Below.refl _ _) | (with_reducible apply below_alloc) | (with_reducible apply below_drewN) | (with_reducible apply Below.drew) | (with_reducible refine below_set ?_ (by dsimp only; omega) _) | (with_reducible refine below_trans ?_ (by assumption))))) (h3.below (by repeat (first | (with_reducible assumption) | (with_reducible exact Below.refl _ _) | (with_reducible apply below_alloc) | (with_reducible apply below_drewN) | (with_reducible apply Below.drew) | (with_reducible refine below_set ?_ (by dsimp only; omega) _) | (with_reducible refine below_trans ?_ (by assumption))))) (h4.below (by repeat (first | (with_reducible assumption) | (with_reducible exact Below.refl _ _) | (with_reducible apply below_alloc) | (with_reducible apply below_drewN) | (with_reducible apply Below.drew) | (with_reducible refine below_set ?_ (by dsimp only; omega) _) | (with_reducible refine below_trans ?_ (by assumption))))) (by omega) (by omega)) ?_
  rintro e0 w1 ⟨rfl, hb1⟩
  have hx1 := Blk.below hx0 hb1
  go_wp2_with fail
  go_ret
  exact ⟨rfl, by repeat (first | (with_reducible assumption) | (with_reducible exact Below.refl _ _) | (with_reducible apply below_alloc) | (with_reducible apply below_drewN) | (with_reducible apply Below.drew) | (with_reducible refine below_set ?_ (by dsimp only; omega) _) | (with_reducible refine below_trans ?_ (by assumption)))⟩

end Go.Proofs.YtoohhkmlgmeolaaGreat
