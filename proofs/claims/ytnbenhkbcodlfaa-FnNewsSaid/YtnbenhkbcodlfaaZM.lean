/- Marks: what the laws' marking functions come to (written by gM.py, own work). -/
import Derived.Test.YtnbenhkbcodlfaaZTw
import Derived.Test.YtnbenhkbcodlfaaProg
set_option linter.unusedVariables false
set_option linter.unusedSimpArgs false
namespace Go.Proofs.Ytnbenhkbcodlfaa
open Go Go.RowKit Mk

/-- A row's marks from k on: each element's as many as it has places. -/
def mkL {α : Type} (mk : Int → α → α) (ct : α → Nat) : Int → List α → List α
  | _, [] => []
  | k, x :: xs => mk k x :: mkL mk ct (k + (ct x : Nat)) xs
def ctL {α : Type} (ct : α → Nat) : List α → Nat
  | [] => 0
  | x :: xs => ct x + ctL ct xs
def mkI (k : Int) (x : Int) : Int := k
def mkB (k : Int) (x : Bool) : Bool := k % 3 == 0
def ctI (x : Int) : Nat := 1
def ctB (x : Bool) : Nat := 1
section
variable {α : Type} (mk : Int → α → α) (ct : α → Nat)
theorem mkL_length : ∀ (k : Int) (xs : List α), (mkL mk ct k xs).length = xs.length
  | _, [] => rfl
  | k, x :: xs => by simp [mkL, mkL_length]
theorem ctL_append : ∀ (xs ys : List α), ctL ct (xs ++ ys) = ctL ct xs + ctL ct ys
  | [], ys => by simp [ctL]
  | x :: xs, ys => by simp [ctL, ctL_append xs ys, Nat.add_assoc]
theorem mkL_append : ∀ (k : Int) (xs ys : List α), mkL mk ct k (xs ++ ys) = mkL mk ct k xs ++ mkL mk ct (k + (ctL ct xs : Nat)) ys
  | k, [], ys => by simp [mkL, ctL]
  | k, x :: xs, ys => by simp [mkL, ctL, mkL_append _ xs ys, Int.add_assoc]
theorem ctL_take (xs : List α) (m : Nat) (h : m < xs.length) : ctL ct (xs.take (m + 1)) = ctL ct (xs.take m) + ct xs[m] := by
  rw [List.take_succ_eq_append_getElem h, ctL_append]; simp [ctL]
theorem ctL_le (xs : List α) (m : Nat) : ctL ct (xs.take m) ≤ ctL ct xs := by
  have := ctL_append ct (xs.take m) (xs.drop m)
  rw [List.take_append_drop] at this; omega
theorem mkL_take (k : Int) (xs : List α) (m : Nat) (h : m < xs.length) : ∀ ys, mkL mk ct k (xs.take (m + 1)) ++ ys = mkL mk ct k (xs.take m) ++ mk (k + (ctL ct (xs.take m) : Nat)) xs[m] :: ys := by
  intro ys; rw [List.take_succ_eq_append_getElem h, mkL_append]; simp [mkL]
theorem mkL_get (k : Int) (xs : List α) (m : Nat) (h : m < xs.length) : (mkL mk ct k xs)[m]'(by rw [mkL_length]; exact h) = mk (k + (ctL ct (xs.take m) : Nat)) xs[m] := by
  have e : xs = xs.take m ++ xs[m] :: xs.drop (m + 1) := by rw [← List.drop_eq_getElem_cons h, List.take_append_drop]
  have e2 : mkL mk ct k xs = mkL mk ct k (xs.take m) ++ mk (k + (ctL ct (xs.take m) : Nat)) xs[m] :: mkL mk ct (k + (ctL ct (xs.take m) : Nat) + (ct xs[m] : Nat)) (xs.drop (m + 1)) := by
    conv => lhs; rw [e]
    rw [mkL_append]; rfl
  simp only [e2]
  rw [List.getElem_append_right (by rw [mkL_length, List.length_take]; omega)]
  simp [mkL_length, List.length_take, Nat.min_eq_left (Nat.le_of_lt h)]
end

def mkEntry (k : Int) (x : SEntry) : SEntry := ⟨(k), (k + 1), ⟨(k + 1 + 1), (k + 1 + 1 + 1), (k + 1 + 1 + 1 + 1), (k + 1 + 1 + 1 + 1 + 1)⟩⟩
def ctEntry (x : SEntry) : Nat := 1 + 1 + 1 + 1 + 1 + 1

def mkDoer (k : Int) (x : SDoer) : SDoer := ⟨((k) % 3 == 0), (k + 1), mkL mkEntry ctEntry (k + 1 + 1) x.Log, (k + 1 + 1 + (ctL ctEntry x.Log : Nat))⟩
def ctDoer (x : SDoer) : Nat := 1 + 1 + ctL ctEntry x.Log + 1

def mkMail (k : Int) (x : SMail) : SMail := ⟨(k), (k + 1), (k + 1 + 1), (k + 1 + 1 + 1), (k + 1 + 1 + 1 + 1), ((k + 1 + 1 + 1 + 1 + 1) % 3 == 0), ⟨(k + 1 + 1 + 1 + 1 + 1 + 1), (k + 1 + 1 + 1 + 1 + 1 + 1 + 1), ⟨(k + 1 + 1 + 1 + 1 + 1 + 1 + 1 + 1), (k + 1 + 1 + 1 + 1 + 1 + 1 + 1 + 1 + 1), (k + 1 + 1 + 1 + 1 + 1 + 1 + 1 + 1 + 1 + 1), (k + 1 + 1 + 1 + 1 + 1 + 1 + 1 + 1 + 1 + 1 + 1)⟩⟩, (k + 1 + 1 + 1 + 1 + 1 + 1 + 1 + 1 + 1 + 1 + 1 + 1), mkL mkEntry ctEntry (k + 1 + 1 + 1 + 1 + 1 + 1 + 1 + 1 + 1 + 1 + 1 + 1 + 1) x.Log, (k + 1 + 1 + 1 + 1 + 1 + 1 + 1 + 1 + 1 + 1 + 1 + 1 + 1 + (ctL ctEntry x.Log : Nat))⟩
def ctMail (x : SMail) : Nat := 1 + 1 + 1 + 1 + 1 + 1 + 1 + 1 + 1 + 1 + 1 + 1 + 1 + ctL ctEntry x.Log + 1

def mkReplica (k : Int) (x : SReplica) : SReplica := ⟨(k), (k + 1), (k + 1 + 1), ((k + 1 + 1 + 1) % 3 == 0), (k + 1 + 1 + 1 + 1), mkL mkEntry ctEntry (k + 1 + 1 + 1 + 1 + 1) x.Log, (k + 1 + 1 + 1 + 1 + 1 + (ctL ctEntry x.Log : Nat)), mkL mkI ctI (k + 1 + 1 + 1 + 1 + 1 + (ctL ctEntry x.Log : Nat) + 1) x.Oks, mkL mkB ctB (k + 1 + 1 + 1 + 1 + 1 + (ctL ctEntry x.Log : Nat) + 1 + (ctL ctI x.Oks : Nat)) x.Asks, mkL mkDoer ctDoer (k + 1 + 1 + 1 + 1 + 1 + (ctL ctEntry x.Log : Nat) + 1 + (ctL ctI x.Oks : Nat) + (ctL ctB x.Asks : Nat)) x.Doers⟩
def ctReplica (x : SReplica) : Nat := 1 + 1 + 1 + 1 + 1 + ctL ctEntry x.Log + 1 + ctL ctI x.Oks + ctL ctB x.Asks + ctL ctDoer x.Doers

set_option maxRecDepth 100000 in
set_option maxHeartbeats 2000000 in
theorem markInt64S_c (xs : List Int) (A : Option Addr) (c : Nat) (k : Int) (B : Nat) (fp : List Nat) (w : World) (ho : OwnS kInt 2 B w fp (.slice A xs.length c) xs) (nd : fp.Nodup) (hk : 0 ≤ k) (hb : k + (ctL ctI xs : Nat) ≤ 4611686018427387904) :
    Calls Try.prog 32 #[.slice A xs.length c, .int .i64 k] w fun e' w' => e' = .returned (.int .i64 (k + (ctL ctI xs : Nat))) ∧ OwnS kInt 2 B w' fp (.slice A xs.length c) (mkL mkI ctI k xs) ∧ Turn fp w w' := by
  have hlen := (ownS_rds ho).1.le63
  go_enter Try.func32, Try.ntmps32
  go_wp2_with fail
  go_loopw [1, 5] (fun q i W => ∃ m : Nat, m ≤ xs.length ∧ i = .int .i64 m ∧ q = .int .i64 (k + (ctL ctI (xs.take m) : Nat)) ∧ OwnS kInt 2 B W fp (.slice A xs.length c) (mkL mkI ctI k (xs.take m) ++ xs.drop m) ∧ Turn fp w W) (fun _ i _ => xs.length - (intOf i).toNat)
  case atStart => exact ⟨0, Nat.zero_le _, rfl, by simp [ctL], ho, Turn.refl _ _⟩
  case round =>
    clear ho
    obtain ⟨m, hm, rfl, rfl, ho, ht⟩ := hrel
    by_cases hlt : m < xs.length
    · have hlt' : (m : Int) < (xs.length : Int) := by omega
      have hc1 := ctL_take ctI xs m hlt
      have hc2 := ctL_le ctI xs (m + 1)
      have hmk := mkL_take mkI ctI k xs m hlt
      have hin := ho.in
      rw [List.drop_eq_getElem_cons hlt] at ho
      generalize hx : xs[m] = x at ho hc1 hmk
      rw [hc1] at hc2
      have HG := Lib.hid hc1
      generalize hK : k + (ctL ctI (xs.take m) : Int) = q at hmk ⊢
      have HQ := Lib.hid hK
      have hq0 : 0 ≤ q := by omega
      have hq1 : q + (ctI x : Nat) ≤ 4611686018427387904 := by omega
      have HM := Lib.hid hmk
      clear hK hc1 hx hc2 hb hk hmk
      obtain ⟨gg, fe, f1, f2, c1, ce, c2, rfl, hn, rfl, hc1, hB, hO, wand⟩ := ho.zoom nd
      rw [mkL_length, List.length_take, Nat.min_eq_left hm] at hc1
      clear ho hn
      simp only [show kInt.sz = 1 from rfl, Nat.mul_one] at hc1
      obtain ⟨rfl, rfl⟩ := hO
      have hf1 : ∀ b, b ∈ f1 ∨ b ∈ f2 → b ≠ gg := fun b hb e => nd_g nd (e ▸ hb)
      have fr : ∀ b, b ∈ f1 ∨ b ∈ f2 → wr.heap[b]? = wr.heap[b]? := fun _ _ => rfl
      have HN := Lib.hid (show c1.length = m from hc1)
      have q0 := hB.mid hc1 (j := 0) rfl
      have z0 := hB.frozen (m + 0)
      simp only [Nat.add_zero] at q0 z0
      have HB := Lib.hid hB
      clear hB
      go_wp2_with fail
      have hB := HB.out
      refine ⟨⟨m + 1, hlt, by go_num, congrArg (Value.int .i64) (by have h1 := HG.out; have h2 := HQ.out; simp only [ctI] at h1; omega), ?_, ?_⟩, by simp [intOf]; omega⟩
      · (try simp only [Nat.add_assoc, Nat.reduceAdd])
        rw [HM.out]
        have bb := (hB.set hc1 (j := 0) (by simp) (.int .i64 (q)))
        try simp only [List.set_cons_zero, List.set_cons_succ, Nat.add_zero, Nat.add_assoc, Nat.reduceAdd] at bb
        exact wand _ _ _ (mkI q x) bb (⟨rfl, rfl⟩) (fun b hb => by have hne := hf1 b hb; repeat (first | (with_reducible exact fr b hb) | rw [set_block _ _ _ _ _ hne]))
      · repeat (first | (with_reducible exact ht) | (with_reducible refine Turn.set ?_ (by simp) _))
    · have hk' : m = xs.length := by omega
      subst hk'
      rw [List.take_length, List.drop_length, List.append_nil] at ho
      have HO := Lib.hid ho
      clear ho
      go_wp2_with fail
      go_ret
      exact ⟨by first | rfl | (rw [List.take_length]; rfl), HO.out, ht⟩

end Go.Proofs.Ytnbenhkbcodlfaa

/- Marks of whole values; marks that are held (written by gM.py, own work). -/
set_option linter.unusedVariables false
set_option linter.unusedSimpArgs false
namespace Go.Proofs.Ytnbenhkbcodlfaa
open Go Go.RowKit Mk

set_option maxRecDepth 100000 in
set_option maxHeartbeats 2000000 in
theorem heldInt64S_c (xs : List Int) (A : Option Addr) (c : Nat) (k : Int) (w : World) (h : RdS kInt w A c (mkL mkI ctI k xs)) (hk : 0 ≤ k) (hb : k + (ctL ctI xs : Nat) ≤ 4611686018427387904) :
    Calls Try.prog 33 #[.slice A xs.length c, .int .i64 k] w fun e' w' => e' = .returned (.int .i64 (k + (ctL ctI xs : Nat))) ∧ w' = w := by
  have hlen := h.le63
  rw [mkL_length] at hlen
  go_enter Try.func33, Try.ntmps33
  go_wp2_with fail
  go_loopw [1, 5] (fun q i W => ∃ m : Nat, m ≤ xs.length ∧ i = .int .i64 m ∧ q = .int .i64 (k + (ctL ctI (xs.take m) : Nat)) ∧ W = w) (fun _ i _ => xs.length - (intOf i).toNat)
  case atStart => exact ⟨0, Nat.zero_le _, rfl, by simp [ctL], rfl⟩
  case round =>
    obtain ⟨m, hm, rfl, rfl, rfl⟩ := hrel
    by_cases hlt : m < xs.length
    · have hlt' : (m : Int) < (xs.length : Int) := by omega
      have hc1 := ctL_take ctI xs m hlt
      have hc2 := ctL_le ctI xs (m + 1)
      obtain ⟨a, ea, hx⟩ := h.at_ (k := m) (by rw [mkL_length]; exact hlt)
      subst ea
      rw [mkL_get _ _ _ _ _ hlt] at hx
      clear h
      generalize xs[m] = x at hx hc1
      rw [hc1] at hc2
      have HG := Lib.hid hc1
      generalize hK : k + (ctL ctI (xs.take m) : Int) = q at hx ⊢
      have HQ := Lib.hid hK
      have hq0 : 0 ≤ q := by omega
      have hq1 : q + (ctI x : Nat) ≤ 4611686018427387904 := by omega
      clear hK hc1 hc2 hb hk
      simp only [show kInt.sz = 1 from rfl, Nat.mul_one] at hx
      obtain ⟨cs, hl, hcs⟩ := hx
      obtain rfl := hcs
      have q0 := hl.c0
      simp only [mkI] at q0
      clear hl
      replace hq1 : q + 1 ≤ 4611686018427387904 := by simp only [ctI] at hq1; omega
      go_wp2_with fail
      exact ⟨⟨m + 1, hlt, by go_num, congrArg (Value.int .i64) (by have h1 := HG.out; have h2 := HQ.out; simp only [ctI] at h1; omega), by first | rfl | trivial⟩, by simp [intOf]; omega⟩
    · have hk' : m = xs.length := by omega
      subst hk'
      rw [List.take_length]
      clear h
      go_wp2_with fail
      go_ret
      exact ⟨rfl, rfl⟩

end Go.Proofs.Ytnbenhkbcodlfaa
