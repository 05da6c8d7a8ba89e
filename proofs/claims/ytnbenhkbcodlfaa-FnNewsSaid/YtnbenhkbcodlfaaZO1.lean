/- Who asks for a view; what a node tells of itself (written by gO1.py, own work). -/
import Derived.Test.YtnbenhkbcodlfaaZR
import Derived.Deep.RegionHeld3
set_option linter.unusedVariables false
set_option linter.unusedSimpArgs false
namespace Go.Proofs.Ytnbenhkbcodlfaa
open Go Go.RowKit Mk
theorem ownS_blk1 {α : Type} {d : Kd α} {w : World} {e : TypeId} {B g : Nat} {cells : List Value} {xs : List α} {fi : List Nat} (h : Blk w g e cells) (hl : OwnL d B w fi cells xs) (hB : B ≤ g) (hm : xs.length ≤ maxLen) : OwnS d e B w (g :: fi) (.slice (some ⟨g, 0, none⟩) xs.length xs.length) xs :=
  .inl ⟨fi, cells, rfl, ⟨RdL.len hl.rd, .inr ⟨g, xs.length, cells.toArray, rfl, hB, h, Nat.le_refl _, hm, by simp; exact RdL.len hl.rd, by simp; exact List.take_of_length_le (by rw [RdL.len hl.rd]; exact Nat.le_refl _)⟩⟩, hl⟩
def truesN (l : List Bool) : Nat := (l.filter id).length
theorem truesN_le (l : List Bool) : truesN l ≤ l.length := List.length_filter_le _ _
theorem truesN_succ (l : List Bool) {k : Nat} (h : k < l.length) : truesN (l.take (k + 1)) = truesN (l.take k) + if l[k] then 1 else 0 := by
  unfold truesN
  rw [List.take_add_one, List.filter_append, List.length_append, List.getElem?_eq_getElem h]
  cases l[k] <;> rfl
set_option maxRecDepth 100000 in
set_option maxHeartbeats 2000000 in
theorem countTrue_c (xs : List Bool) (A : Option Addr) (c : Nat) (w : World) (r : RdS kBool w A c xs) (h1000 : xs.length ≤ 1000) :
    Calls Try.prog 68 #[.slice A xs.length c] w fun e w' => e = .returned (.int .i64 (truesN xs)) ∧ w = w' := by
  go_enter Try.func68, Try.ntmps68
  go_wp2_with fail
  go_loop [3, 8] (fun cv jv => ∃ j : Nat, j ≤ xs.length ∧ jv = .int .i64 j ∧ cv = .int .i64 (truesN (xs.take j) : Nat)) (fun _ jv => xs.length - (intOf jv).toNat)
  case atStart => exact ⟨0, Nat.zero_le _, rfl, rfl⟩
  case round =>
    obtain ⟨j, hj, rfl, rfl⟩ := hrel
    by_cases hlt : j < xs.length
    · have hlt' : (j : Int) < (xs.length : Int) := by omega
      obtain ⟨a, ea, hx⟩ := r.at_ hlt
      subst ea
      simp only [show kBool.sz = 1 from rfl, Nat.mul_one] at hx
      obtain ⟨cs, hla, hcs⟩ := hx
      obtain rfl := hcs
      have q0 := hla.c0
      have hsu := Lib.hid (truesN_succ xs hlt)
      have hle : truesN (xs.take j) ≤ 1000 := Nat.le_trans (truesN_le _) (by rw [List.length_take]; omega)
      generalize truesN (xs.take j) = t at hsu hle ⊢
      generalize xs[j] = y at q0 hsu
      clear hla
      cases y with
      | true =>
        go_wp2_with fail
        go_round
        case rel => exact ⟨j + 1, hlt, by go_num, by rw [hsu.out]; go_num⟩
        case measure => simp [intOf]; omega
      | false =>
        go_wp2_with fail
        go_round
        case rel => exact ⟨j + 1, hlt, by go_num, by rw [hsu.out]; rfl⟩
        case measure => simp [intOf]; omega
    · have hj' : j = xs.length := by omega
      subst hj'
      rw [List.take_length]
      go_wp2_with fail
      go_ret
      exact ⟨rfl, rfl⟩
theorem enough_eq (s m : Nat) : decide ((s : Int) / 2 + 1 ≤ (m : Int)) = decide ((s : Int) < 2 * (m : Int)) := by
  by_cases h : (s : Int) < 2 * (m : Int)
  · rw [decide_eq_true h, decide_eq_true (by omega)]
  · rw [decide_eq_false h, decide_eq_false (by omega)]
def tellM (n : SReplica) : SMail := ⟨4, n.Id, n.View % n.Size, n.View, 0, false, zEntry, n.Last, n.Log, n.Commit⟩
def tellL (n : SReplica) : List SMail := if isPrim n then [] else [tellM n]
end Go.Proofs.Ytnbenhkbcodlfaa
