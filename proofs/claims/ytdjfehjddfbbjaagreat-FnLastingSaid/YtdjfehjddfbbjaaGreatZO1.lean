/- Who asks for a view; what a node tells of itself (written by gO1.py, own work). -/
import Derived.Test.YtdjfehjddfbbjaaGreatZR
import Derived.Deep.RegionHeld3
set_option linter.unusedVariables false
set_option linter.unusedSimpArgs false
namespace Go.Proofs.YtdjfehjddfbbjaaGreat
open Go Go.RowKit Mk
theorem ownS_blk1 {α : Type} {d : Kd α} {w : World} {e : TypeId} {B g : Nat} {cells : List Value} {xs : List α} {fi : List Nat} (h : Blk w g e cells) (hl : OwnL d B w fi cells xs) (hB : B ≤ g) (hm : xs.length ≤ maxLen) : OwnS d e B w (g :: fi) (.slice (some ⟨g, 0, none⟩) xs.length xs.length) xs :=
  .inl ⟨fi, cells, rfl, ⟨RdL.len hl.rd, .inr ⟨g, xs.length, cells.toArray, rfl, hB, h, Nat.le_refl _, hm, by simp; exact RdL.len hl.rd, by simp; exact List.take_of_length_le (by rw [RdL.len hl.rd]; exact Nat.le_refl _)⟩⟩, hl⟩
def truesN (l : List Bool) : Nat := (l.filter id).length
theorem truesN_le (l : List Bool) : truesN l ≤ l.length := List.length_filter_le _ _
theorem truesN_succ (l : List Bool) {k : Nat} (h : k < l.length) : truesN (l.take (k + 1)) = truesN (l.take k) + if l[k] then 1 else 0 := by
  unfold truesN
  rw [List.take_add_one, List.filter_append, List.length_append, List.getElem?_eq_getElem h]
  cases l[k] <;> rfl
set_option maxRecDepth 100000 in
set_option maxHeartbeats 2000000 in
theorem countTrue_c (xs : List Bool) (A : Option Addr) (c : Nat) (w : World) (r : RdS kBool w A c xs) (h1000 : xs.length ≤ 1000) :
    Calls Tryz.prog 47 #[.slice A xs.length c] w fun e w' => e = .returned (.int .i64 (truesN xs)) ∧ w = w' := by
  go_enter Tryz.func47, Tryz.ntmps47
  go_wp2_with fail
  go_loop [3, 8] (fun cv jv => ∃ j : Nat, j ≤ xs.length ∧ jv = .int .i64 j ∧ cv = .int .i64 (truesN (xs.take j) : Nat)) (fun _ jv => xs.length - (intOf jv).toNat)
  case atStart => exact ⟨0, Nat.zero_le _, rfl, rfl⟩
  case round =>
    obtain ⟨j, hj, rfl, rfl⟩ := hrel
    by_cases hlt : j < xs.length
    · have hlt' : (j : Int) < (xs.length : Int) := by omega
      obtain ⟨a, ea, hx⟩ := r.at_ hlt
      subst ea
      simp only [show kBool.sz = 1 from rfl, Nat.mul_one] at hx
      obtain ⟨cs, hla, hcs⟩ := hx
      obtain rfl := hcs
      have q0 := hla.c0
      have hsu := Lib.hid (truesN_succ xs hlt)
      have hle : truesN (xs.take j) ≤ 1000 := Nat.le_trans (truesN_le _) (by rw [List.length_take]; omega)
      generalize truesN (xs.take j) = t at hsu hle ⊢
      generalize xs[j] = y at q0 hsu
      clear hla
      cases y with
      | true =>
        go_wp2_with fail
        go_round
        case rel => exact ⟨j + 1, hlt, by go_num, by rw [hsu.out]; go_num⟩
        case measure => simp [intOf]; omega
      | false =>
        go_wp2_with fail
        go_round
        case rel => exact ⟨j + 1, hlt, by go_num, by rw [hsu.out]; rfl⟩
        case measure => simp [intOf]; omega
    · have hj' : j = xs.length := by omega
      subst hj'
      rw [List.take_length]
      go_wp2_with fail
      go_ret
      exact ⟨rfl, rfl⟩
set_option maxRecDepth 100000 in
set_option maxHeartbeats 2000000 in
theorem l9Asked_c (s : Nat) (xs : List Bool) (A : Option Addr) (c : Nat) (p : Addr) (w : World) (g1 : w.cell? ⟨p.block, p.off + 1, none⟩ = some (.int .i64 s)) (g8 : w.cell? ⟨p.block, p.off + 8, none⟩ = some (.slice A xs.length c)) (r : RdS kBool w A c xs) (h1000 : xs.length ≤ 1000) (hs : s ≤ 5) :
    Calls Tryz.prog 51 #[.pointer (some p)] w fun e w' => e = .returned (.bool (decide ((s : Int) / 2 + 1 ≤ (truesN xs : Nat)))) ∧ w = w' := by
  have hmm := truesN_le xs
  go_enter Tryz.func51, Tryz.ntmps51
  go_wp2_with fail
  go_loop [3, 4] (fun cv jv => ∃ j : Nat, j ≤ xs.length ∧ jv = .int .i64 j ∧ cv = .int .i64 (truesN (xs.take j) : Nat)) (fun _ jv => xs.length - (intOf jv).toNat)
  case atStart => exact ⟨0, Nat.zero_le _, rfl, rfl⟩
  case round =>
    obtain ⟨j, hj, rfl, rfl⟩ := hrel
    by_cases hlt : j < xs.length
    · have hlt' : (j : Int) < (xs.length : Int) := by omega
      obtain ⟨a, ea, hx⟩ := r.at_ hlt
      subst ea
      simp only [show kBool.sz = 1 from rfl, Nat.mul_one] at hx
      obtain ⟨cs, hla, hcs⟩ := hx
      obtain rfl := hcs
      have q0 := hla.c0
      have hsu := Lib.hid (truesN_succ xs hlt)
      have hle : truesN (xs.take j) ≤ 1000 := Nat.le_trans (truesN_le _) (by rw [List.length_take]; omega)
      generalize truesN (xs.take j) = t at hsu hle ⊢
      generalize xs[j] = y at q0 hsu
      clear hla
      cases y with
      | true =>
        go_wp2_with fail
        go_round
        case rel => exact ⟨j + 1, hlt, by go_num, by rw [hsu.out]; go_num⟩
        case measure => simp [intOf]; omega
      | false =>
        go_wp2_with fail
        go_round
        case rel => exact ⟨j + 1, hlt, by go_num, by rw [hsu.out]; rfl⟩
        case measure => simp [intOf]; omega
    · have hj' : j = xs.length := by omega
      subst hj'
      rw [List.take_length]
      go_wp2_with fail
      refine (l9Enough_c s w (by omega) (by omega)).mono ?_
      rintro e w1 ⟨rfl, rfl⟩
      go_wp2_with fail
      go_ret
      exact ⟨rfl, rfl⟩
theorem enough_eq (s m : Nat) : decide ((s : Int) / 2 + 1 ≤ (m : Int)) = decide ((s : Int) < 2 * (m : Int)) := by
  by_cases h : (s : Int) < 2 * (m : Int)
  · rw [decide_eq_true h, decide_eq_true (by omega)]
  · rw [decide_eq_false h, decide_eq_false (by omega)]
def tellM (n : SReplica) : SMail := ⟨4, n.Id, n.View % n.Size, n.View, 0, false, zEntry, n.Last, n.Log, n.Commit⟩
def tellL (n : SReplica) : List SMail := if isPrim n then [] else [tellM n]
set_option maxRecDepth 100000 in
set_option maxHeartbeats 2000000 in
theorem l9Tell_c (n : SReplica) (p : Addr) (w : World) (h : At kReplica w p n) (h0 : 0 ≤ n.View) (h1 : 1 ≤ n.Size) (hln : n.Log.length ≤ 1000) :
    Calls Tryz.prog 52 #[.pointer (some p)] w fun r w' => LaidMails (tellL n) w r w' := by
  have HP := Lib.hid (l9Primary_c n p w h h0 h1)
  obtain ⟨A5, c5, A7, c7, A8, c8, A9, c9, f0, f1, f2, f3, f4, f5, f6, f7, f8, f9, h5, h7, h8, h9⟩ := atReplica h
  clear f3 f7 f8 f9 h7 h8 h9 h
  have hs : (n.Size == 0) = false := beq_eq_false_iff_ne.2 (by omega)
  cases q : isPrim n with
  | true =>
    rw [q] at HP
    go_enter Tryz.func52, Tryz.ntmps52
    go_wp2_with fail
    refine HP.out.mono ?_
    rintro e w1 ⟨rfl, m, rfl⟩
    go_wp2_with fail
    go_ret
    exact ⟨none, 0, [], by simp [tellL, q], by simpa [tellL, q] using ownS_nil _ _ _, List.nodup_nil, below_drewN (Below.refl _ _) _⟩
  | false =>
    rw [q] at HP
    go_enter Tryz.func52, Tryz.ntmps52
    go_wp2_with fail
    refine HP.out.mono ?_
    rintro e w1 ⟨rfl, m, hw1⟩
    have b1 : Below w.heap.size w w1 := by rw [hw1]; exact below_drewN (Below.refl _ _) _
    replace f0 := cell_below b1 f0
    replace f1 := cell_below b1 f1
    replace f2 := cell_below b1 f2
    replace f4 := cell_below b1 f4
    replace f5 := cell_below b1 f5
    replace f6 := cell_below b1 f6
    replace h5 := h5.below b1
    clear hw1 HP
    go_upto_region 3 with fail
    go_region_held (fun W => W.cell? p = some (.int .i64 n.Id) ∧ W.cell? ⟨p.block, p.off + 1, none⟩ = some (.int .i64 n.Size) ∧ W.cell? ⟨p.block, p.off + 2, none⟩ = some (.int .i64 n.View) ∧ W.cell? ⟨p.block, p.off + 4, none⟩ = some (.int .i64 n.Last) ∧ W.cell? ⟨p.block, p.off + 5, none⟩ = some (.slice A5 n.Log.length c5) ∧ W.cell? ⟨p.block, p.off + 6, none⟩ = some (.int .i64 n.Commit)) (first | exact ⟨f0, f1, f2, f4, f5, f6⟩ | exact ⟨g0, g1, g2, g4, g5, g6⟩ | go_keep) (first | (go_at_call 96; refine (l8Copy_c n.Log A5 c5 _ (h5.below (by repeat (first | (with_reducible assumption) | (with_reducible exact Below.refl _ _) | (with_reducible apply below_alloc) | (with_reducible apply below_drewN) | (with_reducible apply Below.drew) | (with_reducible refine below_set ?_ (by dsimp only; omega) _) | (with_reducible refine below_trans ?_ (by assumption))))) (by omega)).mono ?_; rintro e w2 ⟨B5, d5, fl, rfl, ol, nl, hb2⟩; have b2 : Below w1.heap.size w1 w2 := (below_trans (Below.refl _ _).drew hb2); have g0 := cell_below b2 f0; have g1 := cell_below b2 f1; have g2 := cell_below b2 f2; have g4 := cell_below b2 f4; have g5 := cell_below b2 f5; have g6 := cell_below b2 f6))
    all_goals (go_wp2_with fail)
    all_goals
      have hq : tellL n = [tellM n] := by simp [tellL, q]
      go_ret
      have il := ol.in
      have s2 := b2.size
      have sd : w1.drew.heap.size = w1.heap.size := rfl
      have s1 := b1.size
      have oM : kMail.Own w.heap.size (w2.alloc (.cells #[.int .i64 4, .int .i64 n.Id, .int .i64 (n.View % n.Size), .int .i64 n.View, .int .i64 0, .bool false, .int .i64 0, .int .i64 0, .int .i64 0, .int .i64 0, .int .i64 0, .int .i64 0, .int .i64 n.Last, .slice B5 n.Log.length d5, .int .i64 n.Commit] 51)) fl [.int .i64 4, .int .i64 n.Id, .int .i64 (n.View % n.Size), .int .i64 n.View, .int .i64 0, .bool false, .int .i64 0, .int .i64 0, .int .i64 0, .int .i64 0, .int .i64 0, .int .i64 0, .int .i64 n.Last, .slice B5 n.Log.length d5, .int .i64 n.Commit] (tellM n) := kMail_ownmk (tellM n) (h13 := (OwnS.bel' ol (below_alloc (Below.refl _ _) _)).lift (fun b hb => by have := (il b hb).1; have := b1.size; omega))
      refine ⟨some ⟨w2.heap.size, 0, none⟩, 1, w2.heap.size :: fl, by simp [hq], ?_, List.nodup_cons.2 ⟨fun hm => by have := (il _ hm).2; omega, nl⟩, below_trans b1 (below_alloc b2 _)⟩
      rw [hq]
      exact ownS_blk1 (blk_alloc w2 [.int .i64 4, .int .i64 n.Id, .int .i64 (n.View % n.Size), .int .i64 n.View, .int .i64 0, .bool false, .int .i64 0, .int .i64 0, .int .i64 0, .int .i64 0, .int .i64 0, .int .i64 0, .int .i64 n.Last, .slice B5 n.Log.length d5, .int .i64 n.Commit] 51) (OwnL.single oM) (by have := b1.size; omega) (by simp [maxLen])
end Go.Proofs.YtdjfehjddfbbjaaGreat
